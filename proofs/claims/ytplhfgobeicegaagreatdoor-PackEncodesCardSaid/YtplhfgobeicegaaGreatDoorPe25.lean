/- Part 25 of the proof: U3, U4, U5. -/
import Derived.Test.YtplhfgobeicegaaGreatDoorPe24
namespace Go.Proofs.YtplhfgobeicegaaGreatDoor.P
open Go Go.RowKit Go.Proofs.YtplhfgobeicegaaGreatDoorW.PrintWords Go.Proofs.YtplhfgobeicegaaGreatDoor.PX
set_option linter.unusedVariables false
set_option linter.unusedSimpArgs false
set_option maxHeartbeats 2000000
abbrev rg (r : List Rg) (i : Nat) : Rg := r.getD i z143
def nf (r : List Rg) : Bool := decide (r.length = 4 ∧ rg r 2 ≠ ⟨128, 191⟩)
structure RowG (r : List Rg) : Prop where
 kind : (r.length = 1 ∧ (rg r 0).f1 ≤ 127) ∨ (r.length = 2 ∧ 194 ≤ (rg r 0).f0 ∧ (rg r 0).f1 ≤ 223) ∨ (r.length = 3 ∧ 224 ≤ (rg r 0).f0 ∧ (rg r 0).f1 ≤ 239) ∨ (r.length = 4 ∧ 240 ≤ (rg r 0).f0 ∧ (rg r 0).f1 ≤ 244)
 foll : ∀ i, 1 ≤ i → i < r.length → 128 ≤ (rg r i).f0 ∧ (rg r i).f1 ≤ 191
 third : nf r = true → (rg r 0).f0 = (rg r 0).f1 ∧ (rg r 1).f0 = (rg r 1).f1
theorem rowOf_len (a b : Int) (n : Nat) : (rowOf a b n).length = n := by simp [rowOf]
theorem rowOf_at (a b : Int) (n i : Nat) (h : i < n) : rg (rowOf a b n) i = ⟨(encL a).getD i 0, (encL b).getD i 0⟩ := by
 simp [rowOf, rg, List.getD_eq_getElem?_getD, h]
theorem enc4 {a : Int} (h : 65536 ≤ a) : encL a = [240 + a / 262144, 128 + a / 4096 % 64, 128 + a / 64 % 64, 128 + a % 64] := by
 unfold encL; rw [if_neg (by omega), if_neg (by omega), if_neg (by omega)]
theorem enc3 {a : Int} (h : 2048 ≤ a) (h2 : a < 65536) : encL a = [224 + a / 4096, 128 + a / 64 % 64, 128 + a % 64] := by
 unfold encL; rw [if_neg (by omega), if_neg (by omega), if_pos (by omega)]
theorem enc2 {a : Int} (h : 128 ≤ a) (h2 : a < 2048) : encL a = [192 + a / 64, 128 + a % 64] := by
 unfold encL; rw [if_neg (by omega), if_pos (by omega)]
theorem cutAt_none {a b : Int} (h : cutAt a b 3 1 = none) : a / 4096 = b / 4096 ∨ (a % 4096 = 0 ∧ b % 4096 = 4095) := by
 simp only [cutAt] at h
 simp only [Int.one_mul, show (64 : Int) * 64 = 4096 from rfl, show (4096 : Int) * 64 = 262144 from rfl] at h
 (repeat' split at h) <;> first | omega | cases h
theorem rowG_of {a b : Int} {n : Nat} (h : CutOk a b n) (hc : cutAt a b (n - 1) 1 = none) : RowG (rowOf a b n) := by
 unfold CutOk at h
 obtain ⟨h0, h1, h2, h3, ⟨rfl, h4⟩ | ⟨rfl, h4, h5⟩ | ⟨rfl, h4, h5⟩ | ⟨rfl, h4⟩⟩ := h
 ·refine ⟨.inl ⟨rowOf_len _ _ _, ?_⟩, fun i hi hi2 => ?_, fun h => ?_⟩
  ·rw [rowOf_at _ _ _ _ (by decide)]
   unfold encL
   rw [if_pos (show b < 128 by omega)]
   show b ≤ 127
   omega
  ·rw [rowOf_len] at hi2; omega
  ·have := (of_decide_eq_true h).1; rw [rowOf_len] at this; omega
 ·refine ⟨.inr (.inl ⟨rowOf_len _ _ _, ?_⟩), fun i hi hi2 => ?_, fun h => ?_⟩
  ·rw [rowOf_at _ _ _ _ (by decide), enc2 h4 (by omega), enc2 (by omega) h5]
   show 194 ≤ 192 + a / 64 ∧ 192 + b / 64 ≤ 223
   omega
  ·rw [rowOf_len] at hi2
   obtain rfl : i = 1 := by omega
   rw [rowOf_at _ _ _ _ (by decide), enc2 h4 (by omega), enc2 (by omega) h5]
   show 128 ≤ 128 + a % 64 ∧ 128 + b % 64 ≤ 191
   omega
  ·have := (of_decide_eq_true h).1; rw [rowOf_len] at this; omega
 ·refine ⟨.inr (.inr (.inl ⟨rowOf_len _ _ _, ?_⟩)), fun i hi hi2 => ?_, fun h => ?_⟩
  ·rw [rowOf_at _ _ _ _ (by decide), enc3 h4 (by omega), enc3 (by omega) h5]
   show 224 ≤ 224 + a / 4096 ∧ 224 + b / 4096 ≤ 239
   omega
  ·rw [rowOf_len] at hi2
   have : i = 1 ∨ i = 2 := by omega
   rcases this with rfl | rfl
   ·rw [rowOf_at _ _ _ _ (by decide), enc3 h4 (by omega), enc3 (by omega) h5]
    show 128 ≤ 128 + a / 64 % 64 ∧ 128 + b / 64 % 64 ≤ 191
    omega
   ·rw [rowOf_at _ _ _ _ (by decide), enc3 h4 (by omega), enc3 (by omega) h5]
    show 128 ≤ 128 + a % 64 ∧ 128 + b % 64 ≤ 191
    omega
  ·have := (of_decide_eq_true h).1; rw [rowOf_len] at this; omega
 ·refine ⟨.inr (.inr (.inr ⟨rowOf_len _ _ _, ?_⟩)), fun i hi hi2 => ?_, fun h => ?_⟩
  ·rw [rowOf_at _ _ _ _ (by decide), enc4 h4, enc4 (by omega)]
   show 240 ≤ 240 + a / 262144 ∧ 240 + b / 262144 ≤ 244
   omega
  ·rw [rowOf_len] at hi2
   have : i = 1 ∨ i = 2 ∨ i = 3 := by omega
   rcases this with rfl | rfl | rfl
   ·rw [rowOf_at _ _ _ _ (by decide), enc4 h4, enc4 (by omega)]
    show 128 ≤ 128 + a / 4096 % 64 ∧ 128 + b / 4096 % 64 ≤ 191
    omega
   ·rw [rowOf_at _ _ _ _ (by decide), enc4 h4, enc4 (by omega)]
    show 128 ≤ 128 + a / 64 % 64 ∧ 128 + b / 64 % 64 ≤ 191
    omega
   ·rw [rowOf_at _ _ _ _ (by decide), enc4 h4, enc4 (by omega)]
    show 128 ≤ 128 + a % 64 ∧ 128 + b % 64 ≤ 191
    omega
  ·have h5 := (of_decide_eq_true h).2
   have h6 := cutAt_none hc
   rw [rowOf_at _ _ _ _ (by decide), enc4 h4, enc4 (by omega)] at h5
   rw [rowOf_at _ _ _ _ (by decide), rowOf_at _ _ _ _ (by decide), enc4 h4, enc4 (by omega)]
   rcases h6 with h6 | h6
   ·show 240 + a / 262144 = 240 + b / 262144 ∧ 128 + a / 4096 % 64 = 128 + b / 4096 % 64
    omega
   ·refine absurd ?_ h5
    show (⟨128 + a / 64 % 64, 128 + b / 64 % 64⟩ : Rg) = ⟨128, 191⟩
    rw [show 128 + a / 64 % 64 = 128 by omega, show 128 + b / 64 % 64 = 191 by omega]
theorem nf_leaf {a b : Int} (h : CutOk a b 4) (hn : nf (rowOf a b 4) = true) : ¬ (a % 4096 = 0 ∧ b % 4096 = 4095) := by
 intro hc
 unfold CutOk at h
 have h5 := (of_decide_eq_true hn).2
 rw [rowOf_at _ _ _ _ (by decide), enc4 (by omega), enc4 (by omega)] at h5
 refine absurd ?_ h5
 show (⟨128 + a / 64 % 64, 128 + b / 64 % 64⟩ : Rg) = ⟨128, 191⟩
 rw [show 128 + a / 64 % 64 = 128 by omega, show 128 + b / 64 % 64 = 191 by omega]
theorem cutF_row : ∀ (f : Nat) (a b : Int) (n : Nat), CutOk a b n → ∀ r ∈ cutF f a b n, RowG r ∧ r.length = n
 | 0, a, b, n, h, r, hr => by cases hr
 | f + 1, a, b, n, h, r, hr => by
  unfold cutF at hr
  split at hr
  ·next hc =>
   obtain rfl := List.mem_singleton.1 hr
   exact ⟨rowG_of h hc, rowOf_len _ _ _⟩
  ·next x hx =>
   have hx2 := cutAt_in a b h.1 h.2.1 _ _ _ (by decide) hx
   rcases List.mem_append.1 hr with h1 | h1
   ·exact cutF_row f _ _ n (h.left hx2) r h1
   ·exact cutF_row f _ _ n (h.right hx2) r h1
def gN (a b : Int) : Nat := (if a % 64 = 0 then 0 else 1) + (if a % 4096 = 0 then 0 else 1) + ((if b % 64 = 63 then 0 else 1) + (if b % 4096 = 4095 then 0 else 1))
theorem cutAt_some {a b x : Int} (h : cutAt a b 3 1 = some x) : a / 64 ≠ b / 64 ∧ ((a % 64 ≠ 0 ∧ x = a - a % 64 + 64) ∨ (a % 64 = 0 ∧ b % 64 ≠ 63 ∧ x = b - b % 64) ∨
  (a % 64 = 0 ∧ b % 64 = 63 ∧ a / 4096 ≠ b / 4096 ∧ a % 4096 ≠ 0 ∧ x = a - a % 4096 + 4096) ∨ (b % 64 = 63 ∧ a % 4096 = 0 ∧ a / 4096 ≠ b / 4096 ∧ b % 4096 ≠ 4095 ∧ x = b - b % 4096) ∨
  (a % 4096 = 0 ∧ b % 4096 = 4095 ∧ x % 4096 = 0)) := by
 simp only [cutAt] at h
 simp only [Int.one_mul, show (64 : Int) * 64 = 4096 from rfl, show (4096 : Int) * 64 = 262144 from rfl] at h
 by_cases c0 : a / 64 = b / 64
 ·rw [if_pos c0, if_pos (show a / 4096 = b / 4096 by omega), if_pos (show a / 262144 = b / 262144 by omega)] at h
  cases h
 ·refine ⟨c0, ?_⟩
  rw [if_neg c0] at h
  by_cases c1 : a % 64 ≠ 0
  ·rw [if_pos c1] at h
   have := Option.some.inj h
   exact .inl ⟨c1, this.symm⟩
  ·rw [if_neg c1] at h
   by_cases c2 : b % 64 ≠ 64 - 1
   ·rw [if_pos c2] at h
    have := Option.some.inj h
    exact .inr (.inl ⟨by omega, by omega, this.symm⟩)
   ·rw [if_neg c2] at h
    by_cases c3 : a / 4096 = b / 4096
    ·rw [if_pos c3, if_pos (show a / 262144 = b / 262144 by omega)] at h
     cases h
    ·rw [if_neg c3] at h
     by_cases c4 : a % 4096 ≠ 0
     ·rw [if_pos c4] at h
      have := Option.some.inj h
      exact .inr (.inr (.inl ⟨by omega, by omega, c3, c4, this.symm⟩))
     ·rw [if_neg c4] at h
      by_cases c5 : b % 4096 ≠ 4096 - 1
      ·rw [if_pos c5] at h
       have := Option.some.inj h
       exact .inr (.inr (.inr (.inl ⟨by omega, by omega, c3, by omega, this.symm⟩)))
      ·rw [if_neg c5] at h
       refine .inr (.inr (.inr (.inr ⟨by omega, by omega, ?_⟩)))
       by_cases c6 : a / 262144 = b / 262144
       ·rw [if_pos c6] at h
        cases h
       ·rw [if_neg c6] at h
        by_cases c7 : a % 262144 ≠ 0
        ·rw [if_pos c7] at h
         have := Option.some.inj h
         omega
        ·rw [if_neg c7] at h
         by_cases c8 : b % 262144 ≠ 262144 - 1
         ·rw [if_pos c8] at h
          have := Option.some.inj h
          omega
         ·rw [if_neg c8] at h
          cases h
theorem bit_le (p : Prop) [Decidable p] : (if p then (0 : Nat) else 1) ≤ 1 := by split <;> omega
theorem cutF_nf : ∀ (f : Nat) (a b : Int), CutOk a b 4 → (cutF f a b 4).countP nf ≤ gN a b ∧ (a / 4096 = b / 4096 → ((a % 64 = 0 ∧ b % 64 = 63) ∨ a / 64 = b / 64) → (cutF f a b 4).countP nf ≤ 1)
 | 0, a, b, h => by simp [cutF]
 | f + 1, a, b, h => by
  unfold cutF
  split
  ·next hc =>
   rw [List.countP_singleton]
   refine ⟨?_, fun _ _ => by split <;> omega⟩
   split
   ·next hn =>
    have := nf_leaf h hn
    unfold gN
    (repeat' split) <;> omega
   ·omega
  ·next x hx =>
   have hx2 := cutAt_in a b h.1 h.2.1 _ _ _ (by decide) hx
   have l := cutF_nf f a (x - 1) (h.left hx2)
   have r := cutF_nf f x b (h.right hx2)
   have hs := cutAt_some hx
   rw [List.countP_append]
   generalize (cutF f a (x - 1) 4).countP nf = m at *
   generalize (cutF f x b 4).countP nf = k at *
   obtain ⟨hne, hs⟩ := hs
   unfold gN at *
   rcases hs with ⟨e1, e⟩ | ⟨e1, e2, e⟩ | ⟨e1, e2, e3, e4, e⟩ | ⟨e1, e2, e3, e4, e⟩ | ⟨e1, e2, e⟩
   ·have h1 := l.2 (by omega) (by omega)
    have h2 := r.1
    rw [if_pos (show x % 64 = 0 by omega)] at h2
    rw [if_neg e1, if_neg (show ¬ a % 4096 = 0 by omega)]
    have h3 := bit_le (x % 4096 = 0)
    exact ⟨by omega, fun _ h => by omega⟩
   ·have h1 := r.2 (by omega) (by omega)
    have h2 := l.1
    rw [if_pos (show (x - 1) % 64 = 63 by omega)] at h2
    rw [if_neg e2, if_neg (show ¬ b % 4096 = 4095 by omega)]
    have h3 := bit_le ((x - 1) % 4096 = 4095)
    exact ⟨by omega, fun _ h => by omega⟩
   ·have h1 := l.2 (by omega) (by omega)
    have h2 := r.1
    rw [if_pos (show x % 64 = 0 by omega), if_pos (show x % 4096 = 0 by omega)] at h2
    rw [if_pos e1, if_neg e4]
    exact ⟨by omega, fun h => absurd h e3⟩
   ·have h1 := r.2 (by omega) (by omega)
    have h2 := l.1
    rw [if_pos (show (x - 1) % 64 = 63 by omega), if_pos (show (x - 1) % 4096 = 4095 by omega)] at h2
    rw [if_pos e1, if_neg e4]
    exact ⟨by omega, fun h => absurd h e3⟩
   ·have h1 := r.1
    have h2 := l.1
    rw [if_pos (show x % 64 = 0 by omega), if_pos e, if_pos (show b % 64 = 63 by omega), if_pos e2] at h1
    rw [if_pos (show a % 64 = 0 by omega), if_pos e1, if_pos (show (x - 1) % 64 = 63 by omega), if_pos (show (x - 1) % 4096 = 4095 by omega)] at h2
    exact ⟨by omega, fun _ _ => by omega⟩
theorem gN_le (a b : Int) : gN a b ≤ 4 := by unfold gN; (repeat' split) <;> omega
theorem nf_not {rows : List (List Rg)} (h : ∀ r ∈ rows, r.length ≠ 4) : rows.countP nf = 0 := by
 rw [List.countP_eq_zero]
 intro r hr hn
 exact h r hr (of_decide_eq_true hn).1
theorem spanN_row (s : Sp) (h : SpOk s) (n : Nat) (hn : n < 4) : (∀ r ∈ spanN s n, RowG r) ∧ (spanN s n).countP nf ≤ (if n = 3 then 4 else 0) ∧ ((spanN s n).length : Int) ≤ uptoL.getD n 0 - fromL.getD n 0 + 1 := by
 unfold spanN
 by_cases hc : (if s.f0 < fromL.getD n 0 then fromL.getD n 0 else s.f0) ≤ (if uptoL.getD n 0 < s.f1 then uptoL.getD n 0 else s.f1)
 ·rw [if_pos hc]
  have hk := span_ok s h n hn hc
  have hl := cutF_len ((((if uptoL.getD n 0 < s.f1 then uptoL.getD n 0 else s.f1)) - (if s.f0 < fromL.getD n 0 then fromL.getD n 0 else s.f0)).toNat + 1) _ _ _ hk
  have ha : fromL.getD n 0 ≤ (if s.f0 < fromL.getD n 0 then fromL.getD n 0 else s.f0) := by split <;> omega
  have hb : (if uptoL.getD n 0 < s.f1 then uptoL.getD n 0 else s.f1) ≤ uptoL.getD n 0 := by split <;> omega
  unfold cutL
  generalize (if s.f0 < fromL.getD n 0 then fromL.getD n 0 else s.f0) = a at *
  generalize (if uptoL.getD n 0 < s.f1 then uptoL.getD n 0 else s.f1) = b at *
  refine ⟨fun r hr => (cutF_row _ a b (n + 1) hk r hr).1, ?_, by omega⟩
  split
  ·next e =>
   subst e
   exact Nat.le_trans (cutF_nf _ a b hk).1 (gN_le a b)
  ·next e =>
   rw [nf_not (fun r hr => by rw [(cutF_row _ a b (n + 1) hk r hr).2]; omega)]
   exact Nat.le_refl _
 ·rw [if_neg hc]
  refine ⟨fun r hr => (by cases hr), by simp, ?_⟩
  have : n = 0 ∨ n = 1 ∨ n = 2 ∨ n = 3 := by omega
  rcases this with rfl | rfl | rfl | rfl <;> decide
theorem span_row (s : Sp) (h : SpOk s) : (∀ r ∈ spanGo s 4 0, RowG r) ∧ (spanGo s 4 0).countP nf ≤ 4 ∧ (spanGo s 4 0).length ≤ 1114112 := by
 have h0 := spanN_row s h 0 (by decide)
 have h1 := spanN_row s h 1 (by decide)
 have h2 := spanN_row s h 2 (by decide)
 have h3 := spanN_row s h 3 (by decide)
 have e : spanGo s 4 0 = spanN s 0 ++ (spanN s 1 ++ (spanN s 2 ++ (spanN s 3 ++ []))) := rfl
 rw [e, List.append_nil]
 refine ⟨fun r hr => ?_, ?_, ?_⟩
 ·simp only [List.mem_append] at hr
  rcases hr with h | h | h | h
  ·exact h0.1 r h
  ·exact h1.1 r h
  ·exact h2.1 r h
  ·exact h3.1 r h
 ·simp only [List.countP_append]
  have a0 := h0.2.1; have a1 := h1.2.1; have a2 := h2.2.1; have a3 := h3.2.1
  rw [if_neg (by decide)] at a0 a1 a2
  rw [if_pos rfl] at a3
  omega
 ·simp only [lA]
  have a0 := h0.2.2; have a1 := h1.2.2; have a2 := h2.2.2; have a3 := h3.2.2
  rw [show uptoL.getD 0 0 = 127 from rfl, show fromL.getD 0 0 = 0 from rfl] at a0
  rw [show uptoL.getD 1 0 = 2047 from rfl, show fromL.getD 1 0 = 128 from rfl] at a1
  rw [show uptoL.getD 2 0 = 65535 from rfl, show fromL.getD 2 0 = 2048 from rfl] at a2
  rw [show uptoL.getD 3 0 = 1114111 from rfl, show fromL.getD 3 0 = 65536 from rfl] at a3
  omega
theorem rows_row : ∀ l : List Sp, (∀ s ∈ l, SpOk s) → (∀ r ∈ rows03 l, RowG r) ∧ (rows03 l).countP nf ≤ 4 * l.length ∧ (rows03 l).length ≤ 1114112 * l.length
 | [], _ => by simp [rows03]
 | s :: t, h => by
  have h1 := span_row s (h s List.mem_cons_self)
  have h2 := rows_row t (fun x hx => h x (List.mem_cons_of_mem _ hx))
  rw [rows03, List.countP_append, lA, List.length_cons]
  refine ⟨fun r hr => ?_, by omega, by omega⟩
  rcases List.mem_append.1 hr with h | h
  ·exact h1.1 r h
  ·exact h2.1 r h
theorem of03_row {p : List Sp} (h : ∀ s ∈ makeL p [] 2, SpOk s) : (∀ r ∈ of03 p, RowG r) ∧ (of03 p).countP nf ≤ 16 + 8 * p.length ∧ (of03 p).length ≤ 1114112 * (4 + 2 * p.length) := by
 have h1 := rows_row (makeL p [] 2) h
 have h2 := make_len p [] 2
 have h3 : (makeL p [] 2).length ≤ 4 + 2 * p.length := by simpa using h2
 unfold of03
 exact ⟨h1.1, by omega, by omega⟩
def hit (c : Int) (y : Wy) : Bool := decide ((rg y.f0 0).f0 ≤ c) && decide (c ≤ (rg y.f0 0).f1)
theorem hit_iff (c : Int) (y : Wy) : hit c y = true ↔ (rg y.f0 0).f0 ≤ c ∧ c ≤ (rg y.f0 0).f1 := by unfold hit; simp
def tl (y : Wy) : Wy := ⟨y.f0.drop 1, y.f1⟩
def adv (c : Int) (l : List Wy) : List Wy := (l.filter (hit c)).map tl
theorem mem_adv {c : Int} {l : List Wy} {z : Wy} : z ∈ adv c l ↔ ∃ y ∈ l, hit c y = true ∧ tl y = z := by
 unfold adv
 rw [List.mem_map]
 exact ⟨fun ⟨y, h, e⟩ => ⟨y, (List.mem_filter.1 h).1, (List.mem_filter.1 h).2, e⟩, fun ⟨y, h, h2, e⟩ => ⟨y, List.mem_filter.2 ⟨h, h2⟩, e⟩⟩
theorem step_go (c : Int) : ∀ l acc : List Wy, (∃ y ∈ l, hit c y = true ∧ y.f0.length = 1 ∧ stepGo c l acc = (⟨y.f1, []⟩, true)) ∨ ((∀ y ∈ l, hit c y = true → y.f0.length ≠ 1) ∧ stepGo c l acc = (⟨-1, acc ++ adv c l⟩, decide (0 < (acc ++ adv c l).length)))
 | [], acc => .inr ⟨fun y hy => (by cases hy), by simp [stepGo, adv]⟩
 | y :: t, acc => by
  rw [stepGo]
  by_cases h : c < (y.f0.getD 0 z143).f0 ∨ (y.f0.getD 0 z143).f1 < c
  ·rw [if_pos h]
   have hh : ¬ hit c y = true := by rw [hit_iff]; unfold rg; omega
   rcases step_go c t acc with ⟨z, hz, h1, h2, e⟩ | ⟨h1, e⟩
   ·exact .inl ⟨z, List.mem_cons_of_mem _ hz, h1, h2, e⟩
   ·refine .inr ⟨fun z hz hz2 => ?_, ?_⟩
    ·rcases List.mem_cons.1 hz with rfl | hz
     ·exact absurd hz2 hh
     ·exact h1 z hz hz2
    ·rw [e]
     unfold adv
     rw [List.filter_cons_of_neg hh]
  ·rw [if_neg h]
   have hh : hit c y = true := by rw [hit_iff]; unfold rg; omega
   by_cases h1 : y.f0.length = 1
   ·rw [if_pos h1]
    exact .inl ⟨y, List.mem_cons_self, hh, h1, rfl⟩
   ·rw [if_neg h1]
    rcases step_go c t (acc ++ [⟨y.f0.drop 1, y.f1⟩]) with ⟨z, hz, h3, h2, e⟩ | ⟨h3, e⟩
    ·exact .inl ⟨z, List.mem_cons_of_mem _ hz, h3, h2, e⟩
    ·refine .inr ⟨fun z hz hz2 => ?_, ?_⟩
     ·rcases List.mem_cons.1 hz with rfl | hz
      ·exact h1
      ·exact h3 z hz hz2
     ·have e2 : adv c (y :: t) = tl y :: adv c t := by
       unfold adv
       rw [List.filter_cons_of_pos hh, List.map_cons]
      rw [e, e2]
      simp only [List.append_assoc, List.singleton_append]
      rfl
theorem step_to {c : Int} {l : List Wy} (hne : ∀ y ∈ l, 1 ≤ y.f0.length) (h : (stepL c l).2 = true) : (∃ y ∈ l, (stepL c l).1 = ⟨y.f1, []⟩) ∨ ((stepL c l).1 = ⟨-1, adv c l⟩ ∧ ∃ y ∈ l, hit c y = true ∧ 2 ≤ y.f0.length) := by
 unfold stepL at *
 rcases step_go c l [] with ⟨y, hy, _, _, e⟩ | ⟨h1, e⟩
 ·exact .inl ⟨y, hy, by rw [e]⟩
 ·rw [e] at h
  have h2 := of_decide_eq_true h
  rw [List.nil_append] at h2 e
  obtain ⟨z, hz⟩ := List.exists_mem_of_length_pos h2
  obtain ⟨y, hy, hh, _⟩ := mem_adv.1 hz
  exact .inr ⟨by rw [e], y, hy, hh, by have := hne y hy; have := h1 y hy hh; omega⟩
def WG (n : Nat) (l : List Wy) : Prop := ∀ y ∈ l, RowG y.f0 ∧ 0 ≤ y.f1 ∧ y.f1 < (n : Int)
def leads : List Int := (List.range 51).map (fun (k : Nat) => 194 + (k : Int))
def pairs (a : Int) (m : Nat) : List (Int × Int) := (List.range m).flatMap (fun (i : Nat) => (List.range 64).map (fun (j : Nat) => (a + (i : Int), 128 + (j : Int))))
theorem mem_pairs (a : Int) (m : Nat) (x y : Int) (h : a ≤ x ∧ x < a + (m : Int)) (h2 : 128 ≤ y ∧ y ≤ 191) : (x, y) ∈ pairs a m := by
 unfold pairs
 refine List.mem_flatMap.2 ⟨(x - a).toNat, List.mem_range.2 (by omega), List.mem_map.2 ⟨(y - 128).toNat, List.mem_range.2 (by omega), ?_⟩⟩
 rw [show a + (((x - a).toNat : Nat) : Int) = x by omega, show 128 + (((y - 128).toNat : Nat) : Int) = y by omega]
theorem of_pairs {a : Int} {m : Nat} {p : Int × Int} (h : p ∈ pairs a m) : a ≤ p.1 ∧ p.1 < a + (m : Int) ∧ 128 ≤ p.2 ∧ p.2 ≤ 191 := by
 unfold pairs at h
 obtain ⟨i, hi, h⟩ := List.mem_flatMap.1 h
 obtain ⟨j, hj, rfl⟩ := List.mem_map.1 h
 have := List.mem_range.1 hi
 have := List.mem_range.1 hj
 dsimp only
 omega
theorem mem_leads (x : Int) (h : 194 ≤ x ∧ x ≤ 244) : x ∈ leads :=
 List.mem_map.2 ⟨(x - 194).toNat, List.mem_range.2 (by omega), by omega⟩
theorem of_leads {x : Int} (h : x ∈ leads) : 194 ≤ x ∧ x ≤ 244 := by
 obtain ⟨k, hk, rfl⟩ := List.mem_map.1 h
 have := List.mem_range.1 hk
 omega
def odd (y : Wy) : Bool := decide (rg y.f0 0 ≠ ⟨128, 191⟩)
def cells (l : List Wy) : List Int := 128 :: (l.filter odd).flatMap (fun y => [(rg y.f0 0).f0, (rg y.f0 0).f1 + 1])
theorem cells_len (l : List Wy) : (cells l).length = 1 + 2 * l.countP odd := by
 unfold cells
 rw [List.length_cons, List.countP_eq_length_filter]
 generalize l.filter odd = m
 have : (m.flatMap (fun y => [(rg y.f0 0).f0, (rg y.f0 0).f1 + 1])).length = 2 * m.length := by
  induction m with
  | nil => rfl
  | cons y t ih => rw [List.flatMap_cons, lA, ih, List.length_cons]; simp; omega
 omega
theorem floor_of : ∀ (l : List Int) (x : Int), (∃ z ∈ l, z ≤ x) → ∃ m ∈ l, m ≤ x ∧ ∀ z ∈ l, z ≤ x → z ≤ m
 | [], x, h => by obtain ⟨z, hz, _⟩ := h; cases hz
 | a :: t, x, h => by
  by_cases ht : ∃ z ∈ t, z ≤ x
  ·obtain ⟨m, hm, h1, h2⟩ := floor_of t x ht
   by_cases ha : a ≤ x ∧ m < a
   ·refine ⟨a, List.mem_cons_self, ha.1, fun z hz hzx => ?_⟩
    rcases List.mem_cons.1 hz with rfl | hz
    ·omega
    ·have := h2 z hz hzx; omega
   ·refine ⟨m, List.mem_cons_of_mem _ hm, h1, fun z hz hzx => ?_⟩
    rcases List.mem_cons.1 hz with rfl | hz
    ·omega
    ·exact h2 z hz hzx
  ·obtain ⟨z, hz, hzx⟩ := h
   rcases List.mem_cons.1 hz with rfl | hz
   ·refine ⟨z, List.mem_cons_self, hzx, fun u hu hux => ?_⟩
    rcases List.mem_cons.1 hu with rfl | hu
    ·omega
    ·exact absurd ⟨u, hu, hux⟩ ht
   ·exact absurd ⟨z, hz, hzx⟩ ht
theorem cell_of (l : List Wy) (hl : ∀ y ∈ l, 128 ≤ (rg y.f0 0).f0 ∧ (rg y.f0 0).f1 ≤ 191) (c : Int) (h : 128 ≤ c ∧ c ≤ 191) : ∃ k ∈ cells l, adv c l = adv k l := by
 obtain ⟨k, hk, h1, h2⟩ := floor_of (cells l) c ⟨128, List.mem_cons_self, h.1⟩
 have h128 := h2 128 List.mem_cons_self h.1
 refine ⟨k, hk, ?_⟩
 unfold adv
 rw [List.filter_congr (q := hit k)]
 intro y hy
 have hb := hl y hy
 have : hit c y = true ↔ hit k y = true := by
  rw [hit_iff, hit_iff]
  by_cases ho : odd y = true
  ·have ha : ∀ z, z = (rg y.f0 0).f0 ∨ z = (rg y.f0 0).f1 + 1 → z ≤ c → z ≤ k := by
    intro z hz
    refine h2 z (List.mem_cons_of_mem _ (List.mem_flatMap.2 ⟨y, List.mem_filter.2 ⟨hy, ho⟩, ?_⟩))
    simp only [List.mem_cons, List.not_mem_nil, or_false]
    exact hz
   have ha1 := ha _ (.inl rfl)
   have ha2 := ha _ (.inr rfl)
   omega
  ·have : rg y.f0 0 = ⟨128, 191⟩ := by
    unfold odd at ho
    simpa using ho
   rw [this]
   dsimp only
   omega
 cases hc : hit c y <;> cases hd : hit k y <;> simp_all
def plC (W : List Wy) : List Pl := (pairs 240 5).flatMap (fun p => (cells (adv p.2 (adv p.1 W))).map (fun c => (⟨-1, adv c (adv p.2 (adv p.1 W))⟩ : Pl)))
def plW (W : List Wy) : List Pl := leads.map (fun c => (⟨-1, adv c W⟩ : Pl)) ++ ((pairs 224 21).map (fun p => (⟨-1, adv p.2 (adv p.1 W)⟩ : Pl)) ++ plC W)
def plAll (n : Nat) (W : Nat → List Wy) : List Pl := (List.range n).map (fun (t : Nat) => (⟨(t : Int), []⟩ : Pl)) ++ (List.range n).flatMap (fun i => plW (W i))
theorem sum_add {α : Type} (f g : α → Nat) : ∀ l : List α, (l.map (fun p => f p + g p)).sum = (l.map f).sum + (l.map g).sum
 | [] => rfl
 | x :: t => by simp only [List.map_cons, List.sum_cons, sum_add f g t]; omega
theorem sum_bit {α : Type} (q : α → Bool) : ∀ l : List α, (l.map (fun p => if q p = true then 1 else 0)).sum = l.countP q
 | [] => rfl
 | x :: t => by simp only [List.map_cons, List.sum_cons, sum_bit q t, List.countP_cons]; omega
theorem sum_zero {α : Type} : ∀ l : List α, (l.map (fun _ => 0)).sum = 0
 | [] => rfl
 | x :: t => by simp only [List.map_cons, List.sum_cons, sum_zero t]
theorem sum_count {α β : Type} (Q : α → β → Bool) (ps : List α) (v : β → Bool) : ∀ W : List β, (∀ y ∈ W, ps.countP (fun p => Q p y) ≤ if v y = true then 1 else 0) → (ps.map (fun p => W.countP (Q p))).sum ≤ W.countP v
 | [], _ => by simp only [List.countP_nil, sum_zero]; omega
 | y :: t, h => by
  have ih := sum_count Q ps v t (fun z hz => h z (List.mem_cons_of_mem _ hz))
  have h1 := h y List.mem_cons_self
  simp only [List.countP_cons, sum_add, sum_bit]
  omega
theorem count_one {α : Type} [DecidableEq α] (q : α → Bool) (a : α) (l : List α) (hn : l.Nodup) (h : ∀ p ∈ l, q p = true → p = a) : l.countP q ≤ 1 := by
 refine Nat.le_trans (List.countP_mono_left (q := fun x => x == a) (fun p hp hq => by simp [h p hp hq])) ?_
 exact List.nodup_iff_count.1 hn a
theorem pairs_nodup : (pairs 240 5).Nodup := by decide +kernel
theorem plC_len (n : Nat) (W : List Wy) (h : WG n W) : (plC W).length ≤ 320 + 2 * W.countP (fun y => nf y.f0) := by
 unfold plC
 rw [List.length_flatMap]
 simp only [List.length_map, cells_len]
 have e : ∀ l : List (Int × Int), (l.map (fun p => 1 + 2 * (adv p.2 (adv p.1 W)).countP odd)).sum = l.length + 2 * (l.map (fun p => (adv p.2 (adv p.1 W)).countP odd)).sum := by
  intro l
  induction l with
  | nil => rfl
  | cons p t ih => simp only [List.map_cons, List.sum_cons, ih, List.length_cons]; omega
 rw [e]
 have hl : (pairs 240 5).length = 320 := by decide +kernel
 have e2 : ∀ p : Int × Int, (adv p.2 (adv p.1 W)).countP odd = W.countP (fun y => (odd (tl (tl y)) && hit p.2 (tl y)) && hit p.1 y) := by
  intro p
  unfold adv
  rw [List.countP_map, List.countP_filter, List.countP_map, List.countP_filter]
  rfl
 simp only [e2]
 have := sum_count (fun (p : Int × Int) y => (odd (tl (tl y)) && hit p.2 (tl y)) && hit p.1 y) (pairs 240 5) (fun y => nf y.f0) W (fun y hy => ?_)
 ·omega
 ·have hg := (h y hy).1
  have key : ∀ p ∈ pairs 240 5, ((odd (tl (tl y)) && hit p.2 (tl y)) && hit p.1 y) = true → nf y.f0 = true ∧ p = ((rg y.f0 0).f0, (rg y.f0 1).f0) := by
   intro p hp hq
   have hq2 : (odd (tl (tl y)) = true ∧ hit p.2 (tl y) = true) ∧ hit p.1 y = true := by simpa using hq
   obtain ⟨⟨q1, q2⟩, q3⟩ := hq2
   have hpp := of_pairs hp
   rw [hit_iff] at q2 q3
   have hlen : y.f0.length = 4 := by
    rcases hg.kind with h | h | h | h <;> omega
   have e0 : rg (tl (tl y)).f0 0 = rg y.f0 2 := by simp [rg, tl, List.getD_eq_getElem?_getD]
   have e1 : rg (tl y).f0 0 = rg y.f0 1 := by simp [rg, tl, List.getD_eq_getElem?_getD]
   rw [e1] at q2
   have hnf : nf y.f0 = true := by
    unfold odd at q1
    rw [e0] at q1
    exact dT ⟨hlen, of_decide_eq_true q1⟩
   have ht := hg.third hnf
   refine ⟨hnf, Prod.ext ?_ ?_⟩
   ·show p.1 = _; omega
   ·show p.2 = _; omega
  split
  ·exact count_one _ _ _ pairs_nodup (fun p hp hq => (key p hp hq).2)
  ·next hv =>
   rw [Nat.le_zero, List.countP_eq_zero]
   intro p hp hq
   exact hv (key p hp hq).1
theorem plW_len (n : Nat) (W : List Wy) (h : WG n W) : (plW W).length ≤ 1715 + 2 * W.countP (fun y => nf y.f0) := by
 have := plC_len n W h
 have h1 : leads.length = 51 := by decide +kernel
 have h2 : (pairs 224 21).length = 1344 := by decide +kernel
 unfold plW
 simp only [lA, List.length_map]
 omega
theorem plAll_len (n R : Nat) (W : Nat → List Wy) (h : ∀ i, i < n → WG n (W i) ∧ (W i).countP (fun y => nf y.f0) ≤ R) : (plAll n W).length ≤ n + n * (1715 + 2 * R) := by
 unfold plAll
 rw [lA, List.length_map, List.length_range, List.length_flatMap]
 have : ∀ l : List Nat, (∀ i ∈ l, i < n) → (l.map (fun i => (plW (W i)).length)).sum ≤ l.length * (1715 + 2 * R) := by
  intro l hl
  induction l with
  | nil => simp
  | cons i t ih =>
   have h1 := ih (fun j hj => hl j (List.mem_cons_of_mem _ hj))
   have h2 := h i (hl i List.mem_cons_self)
   have h3 := plW_len n (W i) h2.1
   rw [List.map_cons, List.sum_cons, List.length_cons, Nat.add_mul]
   omega
 have := this (List.range n) (fun i hi => List.mem_range.1 hi)
 rw [List.length_range] at this
 omega
theorem drop_rg (r : List Rg) (k i : Nat) : rg (r.drop k) i = rg r (k + i) := by simp [rg, List.getD_eq_getElem?_getD]
theorem adv1 {n : Nat} {W : List Wy} (h : WG n W) {c : Int} {z : Wy} (hz : z ∈ adv c W) : ∃ y ∈ W, (rg y.f0 0).f0 ≤ c ∧ c ≤ (rg y.f0 0).f1 ∧ z = ⟨y.f0.drop 1, y.f1⟩ := by
 obtain ⟨y, hy, h1, rfl⟩ := mem_adv.1 hz
 rw [hit_iff] at h1
 exact ⟨y, hy, h1.1, h1.2, rfl⟩
theorem adv2 {n : Nat} {W : List Wy} (h : WG n W) {c1 c2 : Int} {z : Wy} (hz : z ∈ adv c2 (adv c1 W)) : ∃ y ∈ W, (rg y.f0 0).f0 ≤ c1 ∧ c1 ≤ (rg y.f0 0).f1 ∧ (rg y.f0 1).f0 ≤ c2 ∧ c2 ≤ (rg y.f0 1).f1 ∧ z = ⟨y.f0.drop 2, y.f1⟩ := by
 obtain ⟨u, hu, h1, rfl⟩ := mem_adv.1 hz
 obtain ⟨y, hy, h2, h3, rfl⟩ := adv1 h hu
 rw [hit_iff, drop_rg, Nat.add_zero] at h1
 refine ⟨y, hy, h2, h3, h1.1, h1.2, ?_⟩
 unfold tl
 simp only [List.drop_drop]
theorem adv3 {n : Nat} {W : List Wy} (h : WG n W) {c1 c2 c3 : Int} {z : Wy} (hz : z ∈ adv c3 (adv c2 (adv c1 W))) : ∃ y ∈ W, (rg y.f0 0).f0 ≤ c1 ∧ c1 ≤ (rg y.f0 0).f1 ∧ z = ⟨y.f0.drop 3, y.f1⟩ := by
 obtain ⟨u, hu, h1, rfl⟩ := mem_adv.1 hz
 obtain ⟨y, hy, h2, h3, _, _, rfl⟩ := adv2 h hu
 refine ⟨y, hy, h2, h3, ?_⟩
 unfold tl
 simp only [List.drop_drop]
theorem adv_sz (c : Int) (W : List Wy) : (adv c W).length ≤ W.length := by
 unfold adv
 rw [List.length_map]
 exact List.length_filter_le _ _
theorem mem_states {n : Nat} (W : Nat → List Wy) {t : Int} (h : 0 ≤ t) (h2 : t < (n : Int)) : (⟨t, []⟩ : Pl) ∈ plAll n W := by
 refine List.mem_append_left _ (List.mem_map.2 ⟨t.toNat, List.mem_range.2 (by omega), ?_⟩)
 rw [show ((t.toNat : Nat) : Int) = t by omega]
theorem mem_plW {n : Nat} (W : Nat → List Wy) {i : Nat} (h : i < n) {p : Pl} (hp : p ∈ plW (W i)) : p ∈ plAll n W :=
 List.mem_append_right _ (List.mem_flatMap.2 ⟨i, List.mem_range.2 h, hp⟩)
theorem of_all {n : Nat} {W : Nat → List Wy} {p : Pl} (h : p ∈ plAll n W) : (∃ t : Nat, t < n ∧ p = ⟨(t : Int), []⟩) ∨ ∃ i, i < n ∧ (p.f0 = -1 ∧ ((∃ c, (194 ≤ c ∧ c ≤ 244) ∧ p.f1 = adv c (W i)) ∨ (∃ c1 c2, (224 ≤ c1 ∧ c1 ≤ 244) ∧ p.f1 = adv c2 (adv c1 (W i))) ∨ ∃ c1 c2 c3, (240 ≤ c1 ∧ c1 ≤ 244) ∧ p.f1 = adv c3 (adv c2 (adv c1 (W i))))) := by
 unfold plAll at h
 rcases List.mem_append.1 h with h | h
 ·obtain ⟨t, ht, rfl⟩ := List.mem_map.1 h
  exact .inl ⟨t, List.mem_range.1 ht, rfl⟩
 ·obtain ⟨i, hi, h⟩ := List.mem_flatMap.1 h
  refine .inr ⟨i, List.mem_range.1 hi, ?_⟩
  unfold plW at h
  rcases List.mem_append.1 h with h | h
  ·obtain ⟨c, hc, rfl⟩ := List.mem_map.1 h
   exact ⟨rfl, .inl ⟨c, of_leads hc, rfl⟩⟩
  ·rcases List.mem_append.1 h with h | h
   ·obtain ⟨q, hq, rfl⟩ := List.mem_map.1 h
    have := of_pairs hq
    exact ⟨rfl, .inr (.inl ⟨q.1, q.2, by omega, rfl⟩)⟩
   ·unfold plC at h
    obtain ⟨q, hq, h⟩ := List.mem_flatMap.1 h
    obtain ⟨c, _, rfl⟩ := List.mem_map.1 h
    have := of_pairs hq
    exact ⟨rfl, .inr (.inr ⟨q.1, q.2, c, by omega, rfl⟩)⟩
theorem all_ways {n : Nat} {W : Nat → List Wy} (hW : ∀ i, i < n → WG n (W i)) {p : Pl} (h : p ∈ plAll n W) (V : List Wy) (hV : V = if 0 ≤ p.f0 then W p.f0.toNat else p.f1) :
  (∀ y ∈ V, 1 ≤ y.f0.length ∧ 0 ≤ y.f1 ∧ y.f1 < (n : Int)) ∧ (∃ i, i < n ∧ V.length ≤ (W i).length) ∧ ∀ c, (∃ y ∈ V, hit c y = true ∧ 2 ≤ y.f0.length) → (⟨-1, adv c V⟩ : Pl) ∈ plAll n W := by
 rcases of_all h with ⟨t, ht, rfl⟩ | ⟨i, hi, h0, hp⟩
 ·have hV2 : V = W t := by rw [hV, if_pos (show (0 : Int) ≤ (⟨(t : Int), []⟩ : Pl).f0 from Int.natCast_nonneg t)]; rfl
  subst hV2
  refine ⟨fun y hy => ⟨?_, (hW t ht y hy).2⟩, ⟨t, ht, Nat.le_refl _⟩, fun c ⟨y, hy, h1, h2⟩ => ?_⟩
  ·rcases (hW t ht y hy).1.kind with h | h | h | h <;> omega
  ·rw [hit_iff] at h1
   refine mem_plW W ht (List.mem_append_left _ (List.mem_map.2 ⟨c, mem_leads c ?_, rfl⟩))
   rcases (hW t ht y hy).1.kind with h | h | h | h <;> omega
 ·have hV2 : V = p.f1 := by rw [hV, h0]; rfl
  rw [hV2]
  have hWi := hW i hi
  rcases hp with ⟨c1, hc1, e⟩ | ⟨c1, c2, hc1, e⟩ | ⟨c1, c2, c3, hc1, e⟩ <;> rw [e]
  ·refine ⟨fun z hz => ?_, ⟨i, hi, adv_sz _ _⟩, fun c ⟨z, hz, h1, h2⟩ => ?_⟩
   ·obtain ⟨y, hy, h3, h4, rfl⟩ := adv1 hWi hz
    refine ⟨?_, (hWi y hy).2⟩
    show 1 ≤ (y.f0.drop 1).length
    rw [List.length_drop]
    rcases (hWi y hy).1.kind with h | h | h | h <;> omega
   ·obtain ⟨y, hy, h3, h4, rfl⟩ := adv1 hWi hz
    rw [hit_iff, drop_rg, Nat.add_zero] at h1
    rw [show (⟨y.f0.drop 1, y.f1⟩ : Wy).f0 = y.f0.drop 1 from rfl, List.length_drop] at h2
    have hf := (hWi y hy).1.foll 1 (by omega) (by omega)
    refine mem_plW W hi (List.mem_append_right _ (List.mem_append_left _ (List.mem_map.2 ⟨(c1, c), mem_pairs 224 21 c1 c ?_ ?_, rfl⟩)))
    ·rcases (hWi y hy).1.kind with h | h | h | h <;> omega
    ·omega
  ·refine ⟨fun z hz => ?_, ⟨i, hi, Nat.le_trans (adv_sz _ _) (adv_sz _ _)⟩, fun c ⟨z, hz, h1, h2⟩ => ?_⟩
   ·obtain ⟨y, hy, h3, h4, _, _, rfl⟩ := adv2 hWi hz
    refine ⟨?_, (hWi y hy).2⟩
    show 1 ≤ (y.f0.drop 2).length
    rw [List.length_drop]
    rcases (hWi y hy).1.kind with h | h | h | h <;> omega
   ·obtain ⟨y, hy, h3, h4, h5, h6, rfl⟩ := adv2 hWi hz
    rw [hit_iff, drop_rg, Nat.add_zero] at h1
    rw [show (⟨y.f0.drop 2, y.f1⟩ : Wy).f0 = y.f0.drop 2 from rfl, List.length_drop] at h2
    have hf1 := (hWi y hy).1.foll 1 (by omega) (by omega)
    have hf := (hWi y hy).1.foll 2 (by omega) (by omega)
    have hc : 240 ≤ c1 ∧ c1 ≤ 244 := by rcases (hWi y hy).1.kind with h | h | h | h <;> omega
    obtain ⟨k, hk, ek⟩ := cell_of (adv c2 (adv c1 (W i))) (fun u hu => by
     obtain ⟨y', hy', g3, g4, _, _, rfl⟩ := adv2 hWi hu
     have hl : y'.f0.length = 4 := by rcases (hWi y' hy').1.kind with h | h | h | h <;> omega
     have := (hWi y' hy').1.foll 2 (by omega) (by omega)
     show 128 ≤ (rg (y'.f0.drop 2) 0).f0 ∧ (rg (y'.f0.drop 2) 0).f1 ≤ 191
     rw [drop_rg]
     exact this) c (by omega)
    rw [ek]
    refine mem_plW W hi (List.mem_append_right _ (List.mem_append_right _ (List.mem_flatMap.2 ⟨(c1, c2), mem_pairs 240 5 c1 c2 (by omega) (by omega), List.mem_map.2 ⟨k, hk, rfl⟩⟩)))
  ·refine ⟨fun z hz => ?_, ⟨i, hi, Nat.le_trans (adv_sz _ _) (Nat.le_trans (adv_sz _ _) (adv_sz _ _))⟩, fun c ⟨z, hz, h1, h2⟩ => ?_⟩
   ·obtain ⟨y, hy, h3, h4, rfl⟩ := adv3 hWi hz
    refine ⟨?_, (hWi y hy).2⟩
    show 1 ≤ (y.f0.drop 3).length
    rw [List.length_drop]
    rcases (hWi y hy).1.kind with h | h | h | h <;> omega
   ·obtain ⟨y, hy, h3, h4, rfl⟩ := adv3 hWi hz
    rw [show (⟨y.f0.drop 3, y.f1⟩ : Wy).f0 = y.f0.drop 3 from rfl, List.length_drop] at h2
    rcases (hWi y hy).1.kind with h | h | h | h <;> omega
def KAll (n : Nat) (W : Nat → List Wy) (l : List Pl) : Prop := l.Nodup ∧ ∀ p ∈ l, p ∈ plAll n W
theorem raw_ok (next : List (List Int)) (rows : List (List (List Rg))) (B : Nat) (hn : 0 < next.length) (hW : ∀ i, i < next.length → WG next.length (waysL (next.getD i []) rows) ∧ (waysL (next.getD i []) rows).length ≤ 1000000000)
  (hB : (plAll next.length (fun i => waysL (next.getD i []) rows)).length ≤ B) : RawOk next rows B (KAll next.length (fun i => waysL (next.getD i []) rows)) := by
 have hA := @all_ways next.length (fun i => waysL (next.getD i []) rows) (fun i hi => (hW i hi).1)
 refine ⟨⟨by simp, fun p hp => ?_⟩, fun l hl => ?_, fun l hl p hp => ?_, fun l hl p hp y hy => ?_, fun l hl p hp => ?_, fun l hl p hp c _ _ h1 h2 => ?_⟩
 ·obtain rfl := List.mem_singleton.1 hp
  exact mem_states _ (Int.le_refl 0) (by omega)
 ·exact Nat.le_trans (hl.1.length_le_of_subset (fun p hp => hl.2 p hp)) hB
 ·rcases of_all (hl.2 p hp) with ⟨t, ht, rfl⟩ | ⟨i, hi, h0, _⟩
  ·show (t : Int) < _; omega
  ·omega
 ·exact ((hA (hl.2 p hp) (waysAt next rows p) rfl).1 y hy).1
 ·obtain ⟨i, hi, h1⟩ := (hA (hl.2 p hp) (waysAt next rows p) rfl).2.1
  exact Nat.le_trans h1 (hW i hi).2
 ·have hh := hA (hl.2 p hp) (waysAt next rows p) rfl
  refine ⟨List.nodup_append.2 ⟨hl.1, by simp, fun a ha b hb e => ?_⟩, fun q hq => ?_⟩
  ·obtain rfl := List.mem_singleton.1 hb
   exact h2 (e ▸ ha)
  ·rcases List.mem_append.1 hq with hq | hq
   ·exact hl.2 q hq
   ·obtain rfl := List.mem_singleton.1 hq
    rcases step_to (fun y hy => (hh.1 y hy).1) h1 with ⟨y, hy, e⟩ | ⟨e, hy⟩
    ·rw [e]
     have := hh.1 y hy
     exact mem_states _ this.2.1 this.2.2
    ·rw [e]
     exact hh.2.2 c hy
theorem ways_mem (row : List Int) : ∀ (rows : List (List (List Rg))) (k : Nat) (y : Wy), y ∈ waysGo row rows k → (∃ rs ∈ rows, y.f0 ∈ rs) ∧ 0 ≤ y.f1 ∧ ∃ j, j < k + rows.length ∧ y.f1 = row.getD j 0
 | [], k, y, h => by cases h
 | rs :: t, k, y, h => by
  rw [waysGo] at h
  rcases List.mem_append.1 h with h | h
  ·unfold waysOf at h
   split at h
   ·next hc =>
    obtain ⟨r, hr, rfl⟩ := List.mem_map.1 h
    exact ⟨⟨rs, List.mem_cons_self, hr⟩, hc, k, by rw [List.length_cons]; omega, rfl⟩
   ·cases h
  ·obtain ⟨⟨rs', h1, h2⟩, h3, j, h4, h5⟩ := ways_mem row t (k + 1) y h
   exact ⟨⟨rs', List.mem_cons_of_mem _ h1, h2⟩, h3, j, by rw [List.length_cons]; omega, h5⟩
theorem ways_cnt (row : List Int) : ∀ (rows : List (List (List Rg))) (k : Nat), (waysGo row rows k).countP (fun y => nf y.f0) ≤ (rows.map (fun rs => rs.countP nf)).sum ∧ (waysGo row rows k).length ≤ (rows.map (fun rs => rs.length)).sum
 | [], k => by simp [waysGo]
 | rs :: t, k => by
  have ih := ways_cnt row t (k + 1)
  rw [waysGo, List.countP_append, lA, List.map_cons, List.map_cons, List.sum_cons, List.sum_cons]
  have : (waysOf rs (row.getD k 0)).countP (fun y => nf y.f0) ≤ rs.countP nf ∧ (waysOf rs (row.getD k 0)).length ≤ rs.length := by
   unfold waysOf
   split
   ·rw [List.countP_map, List.length_map]
    exact ⟨Nat.le_refl _, Nat.le_refl _⟩
   ·exact ⟨by simp, by simp⟩
  omega
theorem least_in (parts : List (List Sp)) (next : List (List Int)) (tags : List Int) (hok : Ok12 parts.length tags.length next) (hnl : next.length = tags.length) (hn0 : 0 < tags.length) : ∀ row ∈ (leastL parts next tags).next, ∀ x ∈ row, -1 ≤ x ∧ x < ((leastL parts next tags).next.length : Int) := by
 have hok2 := ok12_bare parts next tags.length hok
 unfold leastL leastD leastC leastB
 rw [List.length_map]
 generalize hN : next.map (bareR parts) = N at *
 generalize hPP : bareP parts = P at *
 have hol := firsts_len P.length N tags (liveL N tags)
 have hnat := (firsts_canon P.length N tags (liveL N tags)).nat
 generalize firstsL P.length N tags (liveL N tags) = o at *
 have hkeys := (sets_keys P _ (groups_gq P.length N (liveL N tags) o (reachL N (liveL N tags) o (natsL P.length)).1)).1
 generalize (setsL P (groupsL P.length N (liveL N tags) o (reachL N (liveL N tags) o (natsL P.length)).1)).2 = keys at *
 have hNl : N.length = tags.length := by rw [← hN, List.length_map]; exact hnl
 have hcell : ∀ s : Nat, s < o.length → ∀ k ∈ keys, (N.getD s []).getD k.toNat 0 < (o.length : Int) := fun s hs k hk => by
  rw [hol]
  have := hkeys k hk
  exact (hok2 s (by omega)).2 k.toNat (by omega)
 have hq := reach_rq N (liveL N tags) o keys (by omega) hnat hcell
 intro row hr x hx
 dsimp only at hr
 obtain ⟨s, hs, rfl⟩ := List.mem_map.1 hr
 unfold leastRow at hx
 obtain ⟨k, hk, rfl⟩ := List.mem_map.1 hx
 generalize reachL N (liveL N tags) o keys = q at *
 have hs2 := hq.1.out s hs
 have hk2 := kindL_lt N (liveL N tags) o s.toNat k.toNat o.length hnat (hcell s.toNat (by omega) k hk)
 split
 ·exact hq.1.at_ _ (mem_getD q.2 0 _ (by rw [hq.1.len]; omega))
 ·have := hq.2
  omega
theorem least_tags (parts : List (List Sp)) (next : List (List Int)) (tags : List Int) (h : ∀ t ∈ tags, -1 ≤ t) : ∀ t ∈ (leastL parts next tags).tags, -1 ≤ t := by
 unfold leastL leastD leastC leastB
 intro t ht
 obtain ⟨s, _, rfl⟩ := List.mem_map.1 ht
 rcases Nat.lt_or_ge s.toNat tags.length with c | c
 ·exact h _ (mem_getD tags 0 _ c)
 ·rw [List.getD_eq_getElem?_getD, List.getElem?_eq_none c]; decide
def RowB (s : BySt) : Prop := (∀ x ∈ s.row, -1 ≤ x ∧ x < (s.l.length : Int)) ∧ s.x < (s.l.length : Int) ∧ -1 ≤ s.x
theorem byte_in (ws : List Wy) (c : Int) (s : BySt) (h : RowB s) : RowB (byteStep ws c s) ∧ s.l.length ≤ (byteStep ws c s).l.length := by
 have hx := byX_le s (stepL c ws) h.2.1 h.2.2
 unfold byteStep RowB
 dsimp only
 generalize byX s (stepL c ws) = x at *
 by_cases e : x = (s.l.length : Int)
 ·rw [if_pos e, lA, lS]
  refine ⟨⟨fun y hy => ?_, by omega, hx.1⟩, by omega⟩
  rcases List.mem_append.1 hy with hy | hy
  ·have := h.1 y hy; omega
  ·obtain rfl := List.mem_singleton.1 hy; omega
 ·rw [if_neg e]
  refine ⟨⟨fun y hy => ?_, by omega, hx.1⟩, Nat.le_refl _⟩
  rcases List.mem_append.1 hy with hy | hy
  ·exact h.1 y hy
  ·obtain rfl := List.mem_singleton.1 hy; omega
theorem bytes_in (ws : List Wy) : ∀ (m c : Nat) (s : BySt), RowB s → RowB (bytesGo ws m c s) ∧ s.l.length ≤ (bytesGo ws m c s).l.length
 | 0, c, s, h => ⟨h, Nat.le_refl _⟩
 | m + 1, c, s, h => by
  have h1 := byte_in ws (c : Int) s h
  have h2 := bytes_in ws m (c + 1) _ h1.1
  exact ⟨h2.1, Nat.le_trans h1.2 h2.2⟩
structure RawIn (i : Nat) (s : RawSt) : Prop where
 next : s.next.length = i
 tags : s.tags.length = i
 tag : ∀ t ∈ s.tags, -1 ≤ t
 row : ∀ r ∈ s.next, r.length = 256 ∧ ∀ x ∈ r, -1 ≤ x ∧ x < (s.l.length : Int)
theorem RawIn.step {next : List (List Int)} {tags : List Int} {rows : List (List (List Rg))} {B : Nat} {K : List Pl → Prop} (hR : RawOk next rows B K) (ht : ∀ t ∈ tags, -1 ≤ t) {i : Nat} {s : RawSt} (h : RawIn i s) (hk : K s.l) (hi : i < s.l.length) : RawIn (i + 1) (rawStep next tags rows i s) ∧ K (rawStep next tags rows i s).l ∧ s.l.length ≤ (rawStep next tags rows i s).l.length := by
 unfold rawStep
 generalize hp : s.l.getD i z115 = p
 have h1 := bytes_in (waysAt next rows p) 256 0 ⟨s.l, -1, ⟨-1, []⟩, []⟩ ⟨fun x hx => (by cases hx), by dsimp only; omega, by dsimp only; omega⟩
 have h2 := ByOk.go hR (i := i) (p := p) 256 0 ⟨s.l, -1, ⟨-1, []⟩, []⟩ rfl ⟨hk, ⟨hi, hp⟩, ⟨by dsimp only; omega, by dsimp only; omega⟩, rfl⟩
 generalize bytesGo (waysAt next rows p) 256 0 ⟨s.l, -1, ⟨-1, []⟩, []⟩ = b at *
 dsimp only at h1 ⊢
 refine ⟨⟨by rw [lA, h.next]; rfl, by rw [lA, h.tags]; rfl, fun t hm => ?_, fun r hm => ?_⟩, h2.k, h1.2⟩
 ·rcases List.mem_append.1 hm with hm | hm
  ·exact h.tag t hm
  ·obtain rfl := List.mem_singleton.1 hm
   split
   ·rcases Nat.lt_or_ge p.f0.toNat tags.length with c | c
    ·exact ht _ (mem_getD tags 0 _ c)
    ·rw [List.getD_eq_getElem?_getD, List.getElem?_eq_none c]; decide
   ·exact Int.le_refl _
 ·rcases List.mem_append.1 hm with hm | hm
  ·have := h.row r hm
   refine ⟨this.1, fun x hx => ?_⟩
   have h3 := this.2 x hx
   have h4 := h1.2
   show _ ∧ x < (b.l.length : Int)
   omega
  ·obtain rfl := List.mem_singleton.1 hm
   exact ⟨h2.row, h1.1.1⟩
theorem raw_go {next : List (List Int)} {tags : List Int} {rows : List (List (List Rg))} {B : Nat} {K : List Pl → Prop} (hR : RawOk next rows B K) (ht : ∀ t ∈ tags, -1 ≤ t) : ∀ (f i : Nat) (s : RawSt), RawIn i s → K s.l → i ≤ s.l.length → B ≤ i + f →
  RawIn (rawGo next tags rows f i s).l.length (rawGo next tags rows f i s) ∧ K (rawGo next tags rows f i s).l ∧ s.l.length ≤ (rawGo next tags rows f i s).l.length
 | 0, i, s, h, hk, hi, hB => by
  have h1 := hR.len _ hk
  obtain rfl : i = s.l.length := by omega
  exact ⟨h, hk, Nat.le_refl _⟩
 | f + 1, i, s, h, hk, hi, hB => by
  rw [rawGo]
  by_cases c : i < s.l.length
  ·rw [if_pos c]
   have h1 := h.step hR ht hk c
   have h2 := raw_go hR ht f (i + 1) _ h1.1 h1.2.1 (by have := h1.2.2; omega) (by omega)
   exact ⟨h2.1, h2.2.1, Nat.le_trans h1.2.2 h2.2.2⟩
  ·rw [if_neg c]
   obtain rfl : i = s.l.length := by omega
   exact ⟨h, hk, Nat.le_refl _⟩
theorem raw_in {next : List (List Int)} {tags : List Int} {rows : List (List (List Rg))} {B : Nat} {K : List Pl → Prop} (hR : RawOk next rows B K) (ht : ∀ t ∈ tags, -1 ≤ t) : RawIn (rawL next tags rows B).l.length (rawL next tags rows B) ∧ (rawL next tags rows B).l.length ≤ B ∧ 1 ≤ (rawL next tags rows B).l.length := by
 have h := raw_go hR ht B 0 ⟨[⟨0, []⟩], [], []⟩ ⟨rfl, rfl, fun t h => (by cases h), fun r h => (by cases h)⟩ hR.start (Nat.zero_le _) (by omega)
 exact ⟨h.1, hR.len _ h.2.1, h.2.2⟩
theorem lst_in (row : List Int) (f : Int) (N : Int) (h : ∀ j, -1 ≤ row.getD j 0 ∧ row.getD j 0 < N) : ∀ (parts : List (List Sp)) (k : Nat) (a : Int), (-1 ≤ a ∧ a < N) → -1 ≤ lstGo row f parts k a ∧ lstGo row f parts k a < N
 | [], k, a, ha => ha
 | p :: t, k, a, ha => by
  rw [lstGo]
  refine lst_in row f N h t (k + 1) _ ?_
  split
  ·exact h k
  ·exact ha
theorem getD_in {l : List Int} {N : Int} (h : ∀ x ∈ l, -1 ≤ x ∧ x < N) (h0 : 0 < N) (j : Nat) : -1 ≤ l.getD j 0 ∧ l.getD j 0 < N := by
 rcases Nat.lt_or_ge j l.length with c | c
 ·exact h _ (mem_getD l 0 j c)
 ·rw [List.getD_eq_getElem?_getD, List.getElem?_eq_none c]; exact ⟨by decide, h0⟩
theorem least13_sound {s : RawSt} (h : RawIn s.l.length s) (h1 : 1 ≤ s.l.length) (h2 : s.l.length ≤ 40000) : BSound (least13 s.next s.tags).1 (least13 s.next s.tags).2 := by
 have hcl := classes_ok s.next
 have hrow : ∀ i, i < s.next.length → (s.next.getD i []).length = 256 ∧ ∀ k, k < 256 → (s.next.getD i []).getD k 0 < (s.tags.length : Int) := fun i hi => by
  have hr := h.row _ (mem_getD s.next [] i hi)
  refine ⟨hr.1, fun k hk => ?_⟩
  rw [h.tags]
  exact (hr.2 _ (mem_getD _ 0 k (by omega))).2
 have hok := as_ok12 s.next s.tags (classesL s.next).1 hrow hcl.f
 have hnl : (asL s.next s.tags (classesL s.next).1).next.length = s.tags.length := by
  show (s.next.map _).length = _
  rw [List.length_map, h.next, h.tags]
 have hlr := least_rows (asL s.next s.tags (classesL s.next).1).parts (asL s.next s.tags (classesL s.next).1).next s.tags
 have hle := least_le (asL s.next s.tags (classesL s.next).1).parts (asL s.next s.tags (classesL s.next).1).next s.tags hok hnl (by rw [h.tags]; omega)
 have hin := least_in (asL s.next s.tags (classesL s.next).1).parts (asL s.next s.tags (classesL s.next).1).next s.tags hok hnl (by rw [h.tags]; omega)
 have htg := least_tags (asL s.next s.tags (classesL s.next).1).parts (asL s.next s.tags (classesL s.next).1).next s.tags h.tag
 unfold least13 dfa13
 generalize leastL (asL s.next s.tags (classesL s.next).1).parts (asL s.next s.tags (classesL s.next).1).next s.tags = d at *
 rw [h.tags] at hle
 dsimp only
 refine ⟨⟨by omega, by omega, by rw [List.length_map]; exact hlr.2⟩, fun i hi => ?_⟩
 have hi2 : i < d.next.length := by rw [hlr.2]; exact hi
 have e : (d.next.map (byteRow d (classesL s.next).1 (classesL s.next).2)).getD i [] = byteRow d (classesL s.next).1 (classesL s.next).2 (d.next.getD i []) := by
  simp [List.getD_eq_getElem?_getD, hi2]
 unfold BRow
 rw [e]
 refine ⟨by simp [byteRow], htg _ (mem_getD d.tags 0 i hi), fun j hj => ?_⟩
 have e2 : (byteRow d (classesL s.next).1 (classesL s.next).2 (d.next.getD i [])).getD j 0 = lstGo (d.next.getD i []) ((classesL s.next).1.getD ((classesL s.next).2.getD j 0).toNat 0) d.parts 0 (-1) := by
  simp [byteRow, List.getD_eq_getElem?_getD, hj]
 rw [e2, ← hlr.2]
 exact lst_in _ _ _ (fun j => getD_in (hin _ (mem_getD d.next [] i hi2)) (by omega) j) _ _ _ (by omega)
theorem spans_sum (g : List Sp → Nat) (a b : Nat) : ∀ parts : List (List Sp), (∀ p ∈ parts, g p ≤ a + b * p.length) → (parts.map g).sum ≤ a * parts.length + b * spansN parts
 | [], _ => by simp
 | p :: t, h => by
  have h1 := h p List.mem_cons_self
  have h2 := spans_sum g a b t (fun q hq => h q (List.mem_cons_of_mem _ hq))
  rw [List.map_cons, List.sum_cons, spansN, List.length_cons, Nat.mul_add, Nat.mul_add]
  omega
theorem of13_good (parts : List (List Sp)) (next : List (List Int)) (tags : List Int) (hs : SoundP parts next tags) (hl : ¬ longD (leastL parts next tags)) (h15 : parts.length ≤ 15) (h9 : tags.length ≤ 9) (hp : ∀ p ∈ (leastL parts next tags).parts, PartP p) :
  (∃ K, Of13Ok (leastL parts next tags) 40000 K) ∧ BSound (least13 (raw13 (leastL parts next tags) 40000).next (raw13 (leastL parts next tags) 40000).tags).1 (least13 (raw13 (leastL parts next tags) 40000).next (raw13 (leastL parts next tags) 40000).tags).2 := by
 have hok := sound_ok12 hs
 have hn0 : 0 < tags.length := by have := hs.1.2.1; omega
 have hlr := least_rows parts next tags
 have hle := least_le parts next tags hok hs.1.2.2.2 hn0
 have hin := least_in parts next tags hok hs.1.2.2.2 hn0
 have htg := least_tags parts next tags (fun t ht => by
  obtain ⟨i, hi, e⟩ := List.getElem_of_mem ht
  have := (hs.2.2 i hi).2.1
  rw [List.getD_eq_getElem?_getD, List.getElem?_eq_getElem hi, Option.getD_some, e] at this
  exact this)
 have hpl : (leastL parts next tags).parts.length ≤ 15 := by
  have h3 := (least_parts parts next tags).2
  have h4 := bareP_len parts
  omega
 generalize leastL parts next tags = d at *
 unfold longD at hl
 have hW : ∀ i, i < d.next.length → WG d.next.length (waysL (d.next.getD i []) (d.parts.map of03)) ∧ (waysL (d.next.getD i []) (d.parts.map of03)).countP (fun y => nf y.f0) ≤ 1040 ∧ (waysL (d.next.getD i []) (d.parts.map of03)).length ≤ 1000000000 := by
  intro i hi
  have hrow := mem_getD d.next [] i hi
  have hc := ways_cnt (d.next.getD i []) (d.parts.map of03) 0
  rw [List.map_map, List.map_map] at hc
  have s1 := spans_sum ((fun (rs : List (List Rg)) => rs.countP nf) ∘ of03) 16 8 d.parts (fun p hq => (of03_row (hp p hq).2).2.1)
  have s2 := spans_sum ((fun (rs : List (List Rg)) => rs.length) ∘ of03) 4456448 2228224 d.parts (fun p hq => by have := (of03_row (hp p hq).2).2.2; show (of03 p).length ≤ _; omega)
  refine ⟨fun y hy => ?_, ?_, ?_⟩
  ·obtain ⟨⟨rs, h1, h2⟩, h3, j, h4, h5⟩ := ways_mem (d.next.getD i []) (d.parts.map of03) 0 y hy
   obtain ⟨p, hq, rfl⟩ := List.mem_map.1 h1
   refine ⟨(of03_row (hp p hq).2).1 _ h2, h3, ?_⟩
   rw [h5]
   refine (hin _ hrow _ (mem_getD _ 0 j ?_)).2
   rw [hlr.1 _ hrow]
   rw [List.length_map] at h4
   omega
  ·exact Nat.le_trans hc.1 (by omega)
  ·exact Nat.le_trans hc.2 (by omega)
 have hB : (plAll d.next.length (fun i => waysL (d.next.getD i []) (d.parts.map of03))).length ≤ 40000 := by
  have := plAll_len d.next.length 1040 (fun i => waysL (d.next.getD i []) (d.parts.map of03)) (fun i hi => ⟨(hW i hi).1, (hW i hi).2.1⟩)
  omega
 have hR := raw_ok d.next (d.parts.map of03) 40000 (by omega) (fun i hi => ⟨(hW i hi).1, (hW i hi).2.2⟩) hB
 have hI := raw_in hR htg
 have hB2 := least13_sound hI.1 hI.2.2 hI.2.1
 refine ⟨⟨_, hR, fun i hi => ?_, ⟨?_, ?_, ?_⟩, ?_⟩, hB2⟩
 ·have hr := hI.1.row _ (mem_getD _ [] i hi)
  refine ⟨hr.1, fun k hk => ?_⟩
  have e : (raw13 d 40000).tags.length = (raw13 d 40000).l.length := hI.1.tags
  rw [e]
  exact (hr.2 _ (mem_getD _ 0 k (by omega))).2
 ·exact hI.1.next.trans hI.1.tags.symm
 ·have e : (raw13 d 40000).tags.length = _ := hI.1.tags
  rw [e]; exact hI.2.2
 ·have e : (raw13 d 40000).tags.length = _ := hI.1.tags
  rw [e]; exact Nat.le_trans hI.2.1 (by decide)
 ·clear hI hB2 hR hB
  generalize raw13 d 40000 = s
  have hcl := classes_ok s.next
  generalize classesL s.next = cl at *
  exact single_uni cl.1 hcl.len hcl.f
end Go.Proofs.YtplhfgobeicegaaGreatDoor.P
