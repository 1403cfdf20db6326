/- Part 3 of the proof: PX, PX2, PX3, PX5. -/
import Derived.Test.YtplhfgobeicegaaGreatDoorPe2
namespace Go.Proofs.YtplhfgobeicegaaGreatDoor.PX
open Go Go.RowKit Go.Proofs.YtplhfgobeicegaaGreatDoorW.PrintWords
set_option linter.unusedVariables false
theorem add_pos (a : Addr) {n : Nat} (h : n ≠ 0) : a.add n = ⟨a.block, a.off + n, none⟩ := by unfold Addr.add; rw [if_neg h]
structure Agree (X : Nat → Prop) (w w' : World) : Prop where
 os : w'.os = w.os
 tape : w'.tape = w.tape
 output : w'.output = w.output
 size : w.heap.size ≤ w'.heap.size
 block : ∀ k, k < w.heap.size → ¬ X k → w'.heap[k]? = w.heap[k]?
theorem Agree.refl (X : Nat → Prop) (w : World) : Agree X w w := ⟨rfl, rfl, rfl, Nat.le_refl _, fun _ _ _ => rfl⟩
theorem Agree.trans {X : Nat → Prop} {w w1 w2 : World} (h : Agree X w w1) (k : Agree X w1 w2) : Agree X w w2 :=
 ⟨k.os.trans h.os, k.tape.trans h.tape, k.output.trans h.output, Nat.le_trans h.size k.size, fun i hi hx => (k.block i (Nat.lt_of_lt_of_le hi h.size) hx).trans (h.block i hi hx)⟩
theorem Agree.mono {X X' : Nat → Prop} {w w' : World} (h : Agree X w w') (hX : ∀ k, k < w.heap.size → X k → X' k) : Agree X' w w' :=
 ⟨h.os, h.tape, h.output, h.size, fun i hi hx => h.block i hi (fun e => hx (hX i hi e))⟩
theorem Agree.of_below {X : Nat → Prop} {w w' : World} (h : Below w.heap.size w w') : Agree X w w' := ⟨h.os, h.tape, h.output, h.size, fun i hi _ => h.block i hi⟩
theorem Agree.of_grown {X : Nat → Prop} {w w' : World} {row : Option Nat} (h : w.grownBy w' row) (hr : ∀ k, row = some k → X k) : Agree X w w' :=
 ⟨h.os, h.tape, h.output, h.size, fun i hi hx => h.block i hi (fun e => hx (hr i e.symm))⟩
theorem Agree.below {X : Nat → Prop} {w w' : World} (h : Agree X w w') (hX : ∀ k, k < w.heap.size → ¬ X k) : Below w.heap.size w w' := ⟨h.os, h.tape, h.output, h.size, fun i hi => h.block i hi (hX i hi)⟩
theorem Agree.alloc (X : Nat → Prop) (w : World) (o : Obj) : Agree X w (w.alloc o) := .of_below (below_alloc (Below.refl _ _) o)
theorem Agree.drew (X : Nat → Prop) (w : World) : Agree X w w.drew := .of_below (below_drew (Below.refl _ _))
theorem bn (w : World) (n : Nat) : Below w.heap.size w (w.drewN n) := pw_below_drewN (Below.refl _ _) n
theorem Agree.setCell {X : Nat → Prop} (w : World) {p : Addr} (hx : X p.block) (v : Value) : Agree X w (w.setCell p v) :=
 ⟨rfl, rfl, rfl, by simp, fun k _ hk => Below.heap_setCell w p v k (fun e => hk (by rw [e]; exact hx))⟩
def Xp (X : Nat → Prop) (v : Value) : Nat → Prop := fun k => X k ∨ v.ownBlock = some k
def At (w : World) (v v1 : Value) : Prop := v1.ownBlock = v.ownBlock ∨ ∃ b, v1.ownBlock = some b ∧ w.heap.size ≤ b
theorem Xp_at {X : Nat → Prop} {w : World} {v v1 : Value} (h : At w v v1) : ∀ k, k < w.heap.size → Xp X v1 k → Xp X v k := by
 rintro k hk (hx | hx)
 ·exact .inl hx
 ·rcases h with h | ⟨b, h, hb⟩
  ·exact .inr (by rw [← h]; exact hx)
  ·rw [h] at hx
   cases hx
   omega
theorem Xp_nil {X : Nat → Prop} {w : World} : ∀ k, k < w.heap.size → Xp X (.slice none 0 0) k → X k := by
 rintro k hk (hx | hx)
 ·exact hx
 ·simp [Value.ownBlock] at hx
theorem Xp_new {X : Nat → Prop} {w : World} {v : Value} (h : ∀ k, v.ownBlock = some k → w.heap.size ≤ k) : ∀ k, k < w.heap.size → Xp X v k → X k := by
 rintro k hk (hx | hx)
 ·exact hx
 ·have := h k hx; omega
section
variable {α : Type} {d : Kd α} {e : Nat} {X X' : Nat → Prop} {w w1 : World} {b : Nat} {v v1 : Value} {xs : List α}
def PV (d : Kd α) (X : Nat → Prop) (w : World) (v : Value) (xs : List α) : Prop := ∃ A c, v = .slice A xs.length c ∧ xs.length ≤ c ∧ ∀ w', Agree X w w' → d.C w' A xs.length xs
def PK (d : Kd α) (X : Nat → Prop) (w : World) (x : α) (cs : List Value) : Prop := ∀ w', Agree X w w' → d.K w' x cs
theorem PV.now (h : PV d X w v xs) : ∃ A c, v = .slice A xs.length c ∧ xs.length ≤ c ∧ d.C w A xs.length xs := by
 obtain ⟨A, c, h1, h2, h3⟩ := h
 exact ⟨A, c, h1, h2, h3 w (Agree.refl X w)⟩
theorem PV.agree (h : PV d X w v xs) (ha : Agree X w w1) : PV d X w1 v xs := by
 obtain ⟨A, c, h1, h2, h3⟩ := h
 exact ⟨A, c, h1, h2, fun w' hw => h3 w' (ha.trans hw)⟩
theorem PK.agree {x : α} {cs : List Value} (h : PK d X w x cs) (ha : Agree X w w1) : PK d X w1 x cs := fun w' hw => h w' (ha.trans hw)
theorem PV.to (h : PV d X w v xs) (hX : ∀ k, k < w.heap.size → X' k → X k) : PV d X' w v xs := by
 obtain ⟨A, c, h1, h2, h3⟩ := h
 exact ⟨A, c, h1, h2, fun w' hw => h3 w' (hw.mono hX)⟩
theorem PK.to {x : α} {cs : List Value} (h : PK d X w x cs) (hX : ∀ k, k < w.heap.size → X' k → X k) : PK d X' w x cs := fun w' hw => h w' (hw.mono hX)
theorem Agree.back (hX : ∀ k, k < w.heap.size → X' k → X k) (ha : Agree X w w1) {w' : World} (hw : Agree X' w1 w') : Agree X w w' :=
 ⟨hw.os.trans ha.os, hw.tape.trans ha.tape, hw.output.trans ha.output, Nat.le_trans ha.size hw.size, fun k hk hx => (hw.block k (Nat.lt_of_lt_of_le hk ha.size) (fun e => hx (hX k hk e))).trans (ha.block k hk hx)⟩
theorem PV.step (h : PV d X w v xs) (hX : ∀ k, k < w.heap.size → X' k → X k) (ha : Agree X w w1) : PV d X' w1 v xs := by
 obtain ⟨A, c, h1, h2, h3⟩ := h
 exact ⟨A, c, h1, h2, fun w' hw => h3 w' (ha.back hX hw)⟩
theorem PK.step {x : α} {cs : List Value} (h : PK d X w x cs) (hX : ∀ k, k < w.heap.size → X' k → X k) (ha : Agree X w w1) : PK d X' w1 x cs := fun w' hw => h w' (ha.back hX hw)
theorem PV.below (h : PV d X w v xs) (hb : Below w.heap.size w w1) : PV d X w1 v xs := h.agree (.of_below hb)
theorem PV.nil (d : Kd α) (X : Nat → Prop) (w : World) : PV d X w (.slice none 0 0) [] := ⟨none, 0, rfl, Nat.le_refl _, fun w' _ => Kd.C_nil d w'⟩
theorem PV.max (h : PV d X w v xs) : xs.length ≤ 9223372036854775807 := by
 obtain ⟨A, c, _, _, h3⟩ := h.now
 exact Kd.C_max h3
theorem PK.slice {E : Nat} (h : PV d X w v xs) : PK (Kd.slice E d) X w xs [v] := by
 obtain ⟨A, c, h1, h2, h3⟩ := h
 exact fun w' hw => ⟨A, c, by rw [h1], h2, h3 w' hw⟩
theorem PV.off (h : PV d X w v xs) (hp : 0 < xs.length) (hs : 0 < d.sz) : ∃ ad c, v = .slice (some ad) xs.length c ∧ ¬ X ad.block ∧ ad.block < w.heap.size := by
 obtain ⟨A, c, h1, h2, h3⟩ := h
 obtain ⟨ad, hA, hc⟩ := (h3 w (Agree.refl X w)).2.2 hp
 obtain ⟨cs, hl, _, hcell⟩ := hc 0 _ (List.getElem?_eq_getElem hp)
 have hlt := World.block_lt_of_cell? w _ (hcell 0 _ (List.getElem?_eq_getElem (by omega)))
 have hb : ∀ n, (ad.add n).block = ad.block := fun n => by unfold Addr.add; split <;> rfl
 rw [hb] at hlt
 refine ⟨ad, c, by rw [h1, hA], fun hx => ?_, hlt⟩
 have hw : Agree X w { w with heap := w.heap.setIfInBounds ad.block (.map #[] 0) } := ⟨rfl, rfl, rfl, by simp, fun k hk hkx => by
  simp only [Array.getElem?_setIfInBounds]
  rw [if_neg (fun e => hkx (by rw [← e]; exact hx))]⟩
 obtain ⟨ad', hA', hc'⟩ := (h3 _ hw).2.2 hp
 obtain ⟨cs', hl', _, hcell'⟩ := hc' 0 _ (List.getElem?_eq_getElem hp)
 rw [hA] at hA'
 cases hA'
 have := hcell' 0 _ (List.getElem?_eq_getElem (by omega))
 simp [World.cell?, hb, hlt] at this
theorem PV.elem (h : PV d X w v xs) (z : α) (j : Nat) (hj : j < xs.length) (hs : 0 < d.sz) : ∃ ad c cs, v = .slice (some ad) xs.length c ∧ cs.length = d.sz ∧ PK d X w (xs.getD j z) cs ∧ ∀ i u, cs[i]? = some u → w.cell? (ad.add (j * d.sz + i)) = some u := by
 obtain ⟨ad, c, hv, hx, hlt⟩ := h.off (by omega) hs
 obtain ⟨A, c', h1, h2, h3⟩ := h
 rw [hv] at h1
 cases h1
 have hb : ∀ n, (ad.add n).block = ad.block := fun n => by unfold Addr.add; split <;> rfl
 obtain ⟨ad1, cs, hA, hl, hK, hcell⟩ := Kd.C_get (h3 w (Agree.refl X w)) z (j : Int) (by omega) (by omega)
 cases hA
 simp only [Int.toNat_natCast] at hK hcell
 refine ⟨ad, c, cs, hv, hl, fun w' hw => ?_, hcell⟩
 obtain ⟨ad2, cs2, hA2, hl2, hK2, hcell2⟩ := Kd.C_get (h3 w' hw) z (j : Int) (by omega) (by omega)
 cases hA2
 simp only [Int.toNat_natCast] at hK2 hcell2
 have : cs2 = cs := by
  apply List.ext_getElem (by omega)
  intro i i1 i2
  have e1 := hcell2 i _ (List.getElem?_eq_getElem i1)
  have e2 := hcell i _ (List.getElem?_eq_getElem i2)
  rw [World.cell?_of_block (hw.block _ (by rw [hb]; exact hlt) (by rw [hb]; exact hx)), e2] at e1
  exact (Option.some.inj e1).symm
 rw [← this]
 exact hK2
theorem PK.of_slice {E : Nat} {cs : List Value} (h : PK (Kd.slice E d) X w xs cs) : ∃ u, cs = [u] ∧ PV d X w u xs := by
 obtain ⟨A, c, rfl, hc, hC⟩ := h w (Agree.refl X w)
 refine ⟨_, rfl, A, c, rfl, hc, fun w' hw => ?_⟩
 obtain ⟨A', c', he, _, hC'⟩ := h w' hw
 cases he
 exact hC'
theorem PK.of_pair {β : Type} {d2 : Kd β} {x : α × β} {cs : List Value} (h : PK (Kd.pair d d2) X w x cs) : ∃ c0 c1, cs = c0 ++ c1 ∧ PK d X w x.1 c0 ∧ PK d2 X w x.2 c1 := by
 obtain ⟨c0, c1, he, h0, h1⟩ := h w (Agree.refl X w)
 have split : ∀ w', Agree X w w' → d.K w' x.1 c0 ∧ d2.K w' x.2 c1 := fun w' hw => by
  obtain ⟨b0, b1, he', h0', h1'⟩ := h w' hw
  have hl : b0.length = c0.length := by rw [d.K_len h0, d.K_len h0']
  obtain ⟨rfl, rfl⟩ := List.append_inj (he'.symm.trans he) hl
  exact ⟨h0', h1'⟩
 exact ⟨c0, c1, he, fun w' hw => (split w' hw).1, fun w' hw => (split w' hw).2⟩
theorem PK.pair {β : Type} {d2 : Kd β} {x : α × β} {c0 c1 : List Value} (h0 : PK d X w x.1 c0) (h1 : PK d2 X w x.2 c1) : PK (Kd.pair d d2) X w x (c0 ++ c1) := fun w' hw => ⟨c0, c1, rfl, h0 w' hw, h1 w' hw⟩
theorem PK.scalar {enc : α → Value} {h1 : ∀ x, (enc x).oneCell' = true} (x : α) : PK (Kd.scalar enc h1) X w x [enc x] := fun _ _ => rfl
theorem PK.of_scalar {enc : α → Value} {h1 : ∀ x, (enc x).oneCell' = true} {x : α} {cs : List Value} (h : PK (Kd.scalar enc h1) X w x cs) : cs = [enc x] := h w (Agree.refl X w)
theorem PK.iso {β : Type} {f : β → α} {x : β} {cs : List Value} : PK (Kd.iso d f) X w x cs ↔ PK d X w (f x) cs := Iff.rfl
theorem PV.row {E : Nat} {xss : List (List α)} (h : PV (Kd.slice E d) X w v xss) (j : Nat) (hj : j < xss.length) : ∃ ad c u, v = .slice (some ad) xss.length c ∧ PV d X w u (xss.getD j []) ∧ w.cell? (ad.add j) = some u := by
 obtain ⟨ad, c, cs, hv, hl, hK, hcell⟩ := h.elem [] j hj (by show 0 < 1; decide)
 obtain ⟨u, rfl, hu⟩ := hK.of_slice
 exact ⟨ad, c, u, hv, hu, by have := hcell 0 _ rfl; simpa [Kd.slice] using this⟩
theorem PV.drop {A : Option Addr} {n c : Nat} (h : PV d X w (.slice A n c) xs) (m : Nat) (hm : m ≤ xs.length) : PV d X w (.slice (if c = m then A else A.map (·.add (m * d.sz))) (xs.drop m).length (c - m)) (xs.drop m) := by
 obtain ⟨A', c', he, hc, hC⟩ := h
 cases he
 exact ⟨_, _, rfl, by rw [List.length_drop]; omega, fun w' hw => Kd.C_drop (hC w' hw) hm hc⟩
theorem PV.take {A : Option Addr} {n c : Nat} (h : PV d X w (.slice A n c) xs) (m : Nat) (hm : m ≤ xs.length) : PV d X w (.slice A (xs.take m).length c) (xs.take m) := by
 obtain ⟨A', c', he, hc, hC⟩ := h
 cases he
 exact ⟨_, _, rfl, by rw [List.length_take]; omega, fun w' hw => Kd.C_take (hC w' hw) hm⟩
theorem PV.from_ {P : Program} (t E : TypeId) (ht : P.underlying t = some (.slice E)) {i : TypeInfo} (hi : P.info? E = some i) (hsz : i.size = d.sz) (h : PV d X w v xs) (m : Nat) (hm : m ≤ xs.length) :
  ∃ u, PV d X w u (xs.drop m) ∧ ∀ W : World, (Instr.slice t v (some (.int .i64 (m : Int))) none none).run P W = .ok u W := by
 obtain ⟨A, c, rfl, hc, hC⟩ := h
 refine ⟨_, PV.drop ⟨A, c, rfl, hc, hC⟩ m hm, fun W => ?_⟩
 have := cut_from (P := P) t E .i64 ht hi d.sz hsz A xs.length c (m : Int) (by omega) (by omega) W
 simpa [List.length_drop] using this
theorem PV.upto {P : Program} (t E : TypeId) (ht : P.underlying t = some (.slice E)) {i : TypeInfo} (hi : P.info? E = some i) (h : PV d X w v xs) (m : Nat) (hm : m ≤ xs.length) :
  ∃ u, PV d X w u (xs.take m) ∧ ∀ W : World, (Instr.slice t v none (some (.int .i64 (m : Int))) none).run P W = .ok u W := by
 obtain ⟨A, c, rfl, hc, hC⟩ := h
 refine ⟨_, PV.take ⟨A, c, rfl, hc, hC⟩ m hm, fun W => ?_⟩
 have := cut_to (P := P) t E .i64 ht hi A xs.length c (m : Int) (by omega) (by omega) hc W
 simpa [List.length_take, Nat.min_eq_left hm] using this
def Own (d : Kd α) (e : Nat) (X : Nat → Prop) (w : World) (b : Nat) (v : Value) (xs : List α) : Prop := (∃ inner, w.ownsRow b e d.sz v xs.length inner ∧ Reps (PK d X w) d.sz xs inner) ∧ ∀ k, v.ownBlock = some k → X k
theorem Own.nil (d : Kd α) (e : Nat) (X : Nat → Prop) (w : World) (b : Nat) : Own d e X w b (.slice none 0 0) [] := ⟨⟨[], own_nil _ _ _ _, Reps.none _ _⟩, fun k hk => by simp [Value.ownBlock] at hk⟩
theorem Own.agree (h : Own d e X w b v xs) (ha : Agree X w w1) (hb : ∀ k, v.ownBlock = some k → w1.heap[k]? = w.heap[k]?) : Own d e X w1 b v xs := by
 obtain ⟨⟨inner, ho, hr⟩, hx⟩ := h
 exact ⟨⟨inner, own_move ho hb, hr.imp_ (fun _ _ hp => hp.agree ha)⟩, hx⟩
theorem Own.below (h : Own d e X w b v xs) (hb : Below w.heap.size w w1) : Own d e X w1 b v xs := by
 refine h.agree (.of_below hb) (fun k hk => hb.block k ?_)
 obtain ⟨⟨inner, ho, _⟩, _⟩ := h
 exact own_lt ho k hk
theorem Own.grown (h : Own d e X w b v xs) {row : Option Nat} (hg : w.grownBy w1 row) (hr : ∀ k, row = some k → X k) (hne : ∀ k, v.ownBlock = some k → some k ≠ row) : Own d e X w1 b v xs := by
 refine h.agree (.of_grown hg hr) (fun k hk => hg.block k ?_ (hne k hk))
 obtain ⟨⟨inner, ho, _⟩, _⟩ := h
 exact own_lt ho k hk
theorem Own.to (h : Own d e X w b v xs) (hX : ∀ k, k < w.heap.size → X' k → X k) (hv : ∀ k, v.ownBlock = some k → X' k) : Own d e X' w b v xs := by
 obtain ⟨⟨inner, ho, hr⟩, hx⟩ := h
 exact ⟨⟨inner, ho, hr.imp_ (fun _ _ hp => hp.to hX)⟩, hv⟩
theorem Own.lt (h : Own d e X w b v xs) : ∀ k, v.ownBlock = some k → k < w.heap.size := by
 obtain ⟨⟨inner, ho, _⟩, _⟩ := h
 exact fun k hk => own_lt ho k hk
theorem Own.base (h : Own d e X w b v xs) : ∀ k, v.ownBlock = some k → b ≤ k := by
 obtain ⟨⟨inner, ho, _⟩, _⟩ := h
 exact fun k hk => own_base ho k hk
theorem Own.typed (h : Own d e X w b v xs) : ∀ k, v.ownBlock = some k → ∃ cells, w.heap[k]? = some (.cells cells e (0, 0)) := by
 obtain ⟨⟨inner, ho, _⟩, _⟩ := h
 exact fun k hk => own_typed ho k hk
theorem Own.ne {β : Type} {d2 : Kd β} {e2 b2 : Nat} {X2 : Nat → Prop} {u : Value} {ys : List β} (h : Own d e X w b v xs) (h2 : Own d2 e2 X2 w b2 u ys) (he : e ≠ e2) : ∀ k, v.ownBlock = some k → some k ≠ u.ownBlock := fun k hk hu => by
 obtain ⟨c1, h3⟩ := h.typed k hk
 obtain ⟨c2, h4⟩ := h2.typed k hu.symm
 rw [h3] at h4
 cases h4
 exact he rfl
theorem Own.sealRo (h : Own d e X w b v xs) (hX : ∀ k, k < w.heap.size → X' k → X k) (hv : ∀ k, v.ownBlock = some k → ¬ X' k) : PV d X' w v xs := by
 have hlt := h.lt
 obtain ⟨⟨inner, ho, hr⟩, hx⟩ := h
 obtain ⟨A, c, hs⟩ := own_slice ho
 refine ⟨A, c, hs, by subst hs; exact own_le ho, fun w' hw => ?_⟩
 have ho' := own_move (w1 := w') ho (fun k hk => hw.block k (hlt k hk) (hv k hk))
 obtain ⟨A', c', hs', hrow⟩ := own_reads_row ho' (hr.imp_ (fun _ _ hp => hp w' (hw.mono hX))) rfl
 rw [hs] at hs'
 cases hs'
 exact hrow
theorem Own.now (h : Own d e X w b v xs) : ∃ A c, v = .slice A xs.length c ∧ xs.length ≤ c ∧ d.C w A xs.length xs := by
 obtain ⟨⟨inner, ho, hr⟩, hx⟩ := h
 obtain ⟨A, c, hs, hrow⟩ := own_reads_row ho (hr.imp_ (fun _ _ hp => hp w (Agree.refl X w))) rfl
 subst hs
 exact ⟨A, c, rfl, own_le ho, hrow⟩
theorem Own.step (h : Own d e X w b v xs) (hX : ∀ k, k < w.heap.size → X' k → X k) (ha : Agree X w w1) (hb : ∀ k, v.ownBlock = some k → w1.heap[k]? = w.heap[k]?) (hv : ∀ k, v.ownBlock = some k → X' k) : Own d e X' w1 b v xs := by
 obtain ⟨⟨inner, ho, hr⟩, hx⟩ := h
 exact ⟨⟨inner, own_move ho hb, hr.imp_ (fun _ _ hp => hp.step hX ha)⟩, hv⟩
theorem PV.app {Y : Nat → Prop} {u u1 : Value} (h : PV d (Xp Y u) w v xs) (hat : At w u u1) (hg : w.grownBy w1 u.ownBlock) : PV d (Xp Y u1) w1 v xs :=
 h.step (Xp_at hat) (.of_grown hg (fun k hk => .inr hk))
theorem Own.app {Y : Nat → Prop} {u u1 : Value} (h : Own d e (Xp Y u) w b v xs) (hat : At w u u1) (hg : w.grownBy w1 u.ownBlock) (hne : ∀ k, v.ownBlock = some k → some k ≠ u.ownBlock) : Own d e (Xp Y u1) w1 b v xs :=
 h.step (Xp_at hat) (.of_grown hg (fun k hk => .inr hk)) (fun k hk => hg.block k (h.lt k hk) (hne k hk)) (fun k hk => (h.2 k hk).elim .inl (fun e => absurd e.symm (hne k hk)))
end
section
variable {α : Type} {d : Kd α} {e : Nat} {X X' : Nat → Prop} {w w1 : World} {b : Nat} {v v1 : Value} {xs : List α}
theorem Own.done (h : Own d e (Xp X v) w b v xs) (hX : ∀ k, X k → k < b) : PV d X w v xs :=
 h.sealRo (fun k _ hk => .inl hk) (fun k hk hx => by have := hX k hx; have := h.base k hk; omega)
theorem Own.mx (h : Own d e X w b v xs) : xs.length ≤ 9223372036854775807 := by
 obtain ⟨A, c, _, _, hC⟩ := h.now
 exact Kd.C_max hC
theorem Own.under (h : Own d e (Xp X v) w b v xs) (hX : ∀ k, X k → k < w.heap.size) : ∀ k, Xp X v k → k < w.heap.size := fun k hk => hk.elim (hX k) (h.lt k)
end
theorem PV.under {α : Type} {d : Kd α} {X : Nat → Prop} {w w1 : World} {v v5 : Value} {xs : List α} (h : PV d X w v xs) (hb : Below w.heap.size w w1) (ho : ∀ k, v5.ownBlock = some k → w.heap.size ≤ k) : PV d (Xp X v5) w1 v xs := h.step (Xp_new ho) (.of_below hb)
section
variable {P : Program} {ops : Array Oper} {rest : List Oper} {o : Oper} {a : Act} {Q : Exit → Act → World → Prop} {α : Type}
theorem lit (d : Kd α) (e : Nat) {X : Nat → Prop} {W : World} (hgd : o.guard = none) {N : Tmp} (_hd : o.dst = some N) {xs : List α} {inner : List Value}
  (hrun : (execOp a.eval o).run P W = .ok (.value (.slice (some ⟨W.heap.size, 0, none⟩) xs.length xs.length)) (W.alloc (.cells inner.toArray e)))
  (hrep : Reps (PK d X W) d.sz xs inner) (hX : ∀ k, X k → k < W.heap.size) (hm : xs.length ≤ 9223372036854775807) {w0 : World} {b : Nat} (HB : Below b w0 W) (hb : b ≤ W.heap.size)
  (h : ∀ v1 w1, PV d X w1 v1 xs → Below W.heap.size W w1 → Below b w0 w1 → wpList P ops Q rest (a.put o.dst v1) w1) : wpList P ops Q (o :: rest) a W := by
 refine Kd.event_run hgd hrun (h _ _ ?_ (below_alloc (Below.refl _ _) _) (HB.alloc hb _))
 have hl := OwnRow.lit (R := PK d X W) (e := e) (size := d.sz) W W.heap.size hrep (Nat.le_refl _) hm
 have ho : Own d e (Xp X (.slice (some ⟨W.heap.size, 0, none⟩) xs.length xs.length)) (W.alloc (.cells inner.toArray e)) W.heap.size (.slice (some ⟨W.heap.size, 0, none⟩) xs.length xs.length) xs := by
  obtain ⟨inner', h1, h2⟩ := hl
  exact ⟨⟨inner', h1, h2.imp_ (fun _ _ hp => hp.step (X := X) (Xp_new (fun k hk => by simp [Value.ownBlock] at hk; omega)) (.alloc _ _ _))⟩, fun k hk => .inr hk⟩
 exact ho.sealRo (fun k _ hk => .inl hk) (fun k hk hx => by
  have := hX k hx
  simp [Value.ownBlock] at hk
  omega)
theorem grow (d : Kd α) {Y : Nat → Prop} {W : World} (b : Nat) (hgd : o.guard = none) (s x : Operand) (t e : TypeId) (z : Value) (bytes : Nat)
  (ho : o.op = .call { callee := .builtin .append, args := #[s, x], argTypes := #[t, t] })
  (ht : P.underlying t = some (.slice e)) (hinfo : (P.info? e).map (fun i => (i.zero, i.size, i.bytes)) = some (some z, d.sz, bytes)) (hz : z.cells.size = d.sz) (hs0 : 0 < d.sz) (hb0 : 0 < bytes)
  (v u : Value) (xs ys : List α) (hs : a.eval s = v) (hx : a.eval x = u)
  (HO : Own d e (Xp Y v) W b v xs) (HY : PV d (Xp Y v) W u ys) (hbase : b ≤ W.heap.size) (hl : (xs.length + ys.length) * bytes ≤ 140737488355328) {w0 : World} (HB : Below b w0 W)
  (h : ∀ v1 w1, Own d e (Xp Y v1) w1 b v1 (xs ++ ys) → At W v v1 → W.grownBy w1 v.ownBlock → Below b w0 w1 → wpList P ops Q rest (a.put o.dst v1) w1) :
  wpList P ops Q (o :: rest) a W := by
 obtain ⟨i0, hi, hzz⟩ := Option.map_eq_some_iff.1 hinfo
 simp only [Prod.mk.injEq] at hzz
 obtain ⟨hz0, hz1, hz2⟩ := hzz
 obtain ⟨A, c, rfl, hc, hC⟩ := HY
 have hlen : xs.length + ys.length ≤ 140737488355328 := Nat.le_trans (Nat.le_mul_of_pos_right _ hb0) hl
 obtain ⟨⟨inner, hown, hr⟩, hX⟩ := HO
 have hrun : ∃ v1 w1, (Builtin.append_ #[t, t] o.type #[v, .slice A ys.length c]).run P W = .ok v1 w1 ∧ Own d e (Xp Y v1) w1 b v1 (xs ++ ys) ∧ At W v v1 ∧ W.grownBy w1 v.ownBlock := by
  rcases A with _ | ad
  ·have h0 : ys = [] := by
    rcases Nat.eq_zero_or_pos ys.length with h0 | h0
    ·exact List.eq_nil_of_length_eq_zero h0
    ·obtain ⟨ad, h, _⟩ := (hC W (Agree.refl _ W)).2.2 h0
     cases h
   subst h0
   refine ⟨v, W, ?_, by rw [List.append_nil]; exact ⟨⟨inner, hown, hr⟩, hX⟩, .inl rfl, World.grownBy.refl W _⟩
   rcases hown.2 with ⟨rfl, hn⟩ | ⟨g, cap, cur, rfl, _, _, hnc, _⟩
   ·simp [Builtin.append_, run_underlying ht, sizeOf, typeInfo, hi, Builtin.lenOf, Builtin.firstCells]
   ·simp [Builtin.append_, run_underlying ht, sizeOf, typeInfo, hi, Builtin.lenOf, Builtin.firstCells, hnc, storeCells]
  ·have hPV : PV d (Xp Y v) W (.slice (some ad) ys.length c) ys := ⟨some ad, c, rfl, hc, hC⟩
   have hrows : ∃ news : List Value, Reps (PK d (Xp Y v) W) d.sz ys news ∧ ∀ j q, news[j]? = some q → W.cell? (ad.add j) = some q := by
    have step : ∀ m, m ≤ ys.length → ∃ news : List Value, Reps (PK d (Xp Y v) W) d.sz (ys.take m) news ∧ ∀ j q, news[j]? = some q → W.cell? (ad.add j) = some q := by
     intro m
     induction m with
     | zero => exact fun _ => ⟨[], by rw [List.take_zero]; exact Reps.none _ _, fun j q hq => by simp at hq⟩
     | succ m ih =>
      intro hm
      obtain ⟨news, h1, h2⟩ := ih (by omega)
      obtain ⟨ad2, c2, cs, he, hl, hK, hcell⟩ := hPV.elem ys[m] m (by omega) hs0
      cases he
      rw [show ys.getD m ys[m] = ys[m] by simp [List.getD_eq_getElem?_getD, show m < ys.length by omega]] at hK
      refine ⟨news ++ cs, ?_, fun j q hq => ?_⟩
      ·rw [List.take_succ_eq_append_getElem (by omega)]
       exact h1.snoc hK hl
      ·have hnl : news.length = m * d.sz := by rw [h1.1, List.length_take, Nat.min_eq_left (by omega)]
       rcases Nat.lt_or_ge j news.length with hj | hj
       ·rw [List.getElem?_append_left hj] at hq
        exact h2 j q hq
       ·rw [List.getElem?_append_right hj] at hq
        have := hcell _ _ hq
        rw [← hnl, Nat.add_sub_cancel' hj] at this
        exact this
    obtain ⟨news, h1, h2⟩ := step ys.length (Nat.le_refl _)
    rw [List.take_length] at h1
    exact ⟨news, h1, h2⟩
   obtain ⟨news, hnr, hnc⟩ := hrows
   have hone : ∀ q ∈ news, q.oneCell' = true := by
    intro q0 hu
    obtain ⟨q, hq, rfl⟩ := List.mem_iff_getElem.1 hu
    have hql : q / d.sz < ys.length := by
     rw [Nat.div_lt_iff_lt_mul hs0]
     rw [← hnr.1]
     exact hq
    have hc := hnr.2 (q / d.sz) _ (List.getElem?_eq_getElem hql)
    refine d.K_one (hc W (Agree.refl _ W)) _ ?_
    rw [List.mem_iff_getElem?]
    refine ⟨q % d.sz, ?_⟩
    rw [List.getElem?_take, if_pos (Nat.mod_lt _ hs0), List.getElem?_drop, Nat.mul_comm, Nat.div_add_mod, List.getElem?_eq_getElem hq]
   obtain ⟨v1, w1, hrun, h2, hg, _, hat⟩ := run_append_own_at (P := P) W b t o.type e i0 z d.sz bytes ht hi hz0 hz1 hz2 hz hs0 v xs.length inner hown ad ys.length c news hnr.1 hnc hone (by simp only [maxLen]; omega) hl hbase
   have hat' : At W v v1 := by
    rcases hat with hat | hat
    ·exact .inl hat
    ·exact .inr ⟨_, hat, Nat.le_refl _⟩
   have ha : Agree (Xp Y v) W w1 := .of_grown hg (fun k hk => .inr hk)
   exact ⟨v1, w1, hrun, ⟨⟨inner ++ news, by rw [lA]; exact h2, Kd.reps_append (hr.imp_ (fun _ _ hq => hq.step (Xp_at hat') ha)) (hnr.imp_ (fun _ _ hq => hq.step (Xp_at hat') ha))⟩, fun k hk => .inr hk⟩, hat', hg⟩
 obtain ⟨v1, w1, hr1, h1, h2, h3⟩ := hrun
 refine wpList_plain hgd fun K hK => ?_
 unfold Oper.wp execOp
 simp only [ho, resolve, invoke, builtin, Sem.run_bind, Sem.run_pure, Result.andThen_ok, List.map_toArray, List.map_cons, List.map_nil, hs, hx, hr1]
 exact hK _ _ (h v1 w1 h1 h2 h3 (pw_below_grown HB _ hbase h3 (own_base hown)))
end
def Box (w : World) (g e : Nat) (vals : List Value) : Prop := w.heap[g]? = some (.cells vals.toArray e (0, 0))
section
variable {w w' w1 : World} {g e b : Nat} {vals : List Value}
theorem Box.cell (h : Box w g e vals) (i : Nat) {v : Value} (hv : vals[i]? = some v) : w.cell? ⟨g, i, none⟩ = some v := by
 unfold Box at h
 simp [World.cell?, h, hv]
theorem Box.open_ (h : Box w g e vals) (i : Nat) : w.frozen? ⟨g, i, none⟩ = false := by
 unfold Box at h
 simp [World.frozen?, h]
theorem Box.lt (h : Box w g e vals) : g < w.heap.size := by
 unfold Box at h
 exact (Array.getElem?_eq_some_iff.1 h).1
theorem Box.keep (h : Box w g e vals) (hk : w'.heap[g]? = w.heap[g]?) : Box w' g e vals := hk.trans h
theorem Box.below (h : Box w g e vals) (hb : Below b w w') (hg : g < b) : Box w' g e vals := h.keep (hb.block g hg)
theorem Box.step (h : Box w g e vals) (hb : Below w.heap.size w w') : Box w' g e vals := h.below hb h.lt
theorem Box.grown {row : Option Nat} (h : Box w g e vals) (hg : w.grownBy w1 row) (hr : some g ≠ row) : Box w1 g e vals := h.keep (hg.block g h.lt hr)
theorem Box.set (h : Box w g e vals) (i : Nat) (v : Value) : Box (w.setCell ⟨g, i, none⟩ v) g e (vals.set i v) := by
 unfold Box at h ⊢
 simp [World.setCell, Array.getElem?_modify, h]
theorem Box.other (h : Box w g e vals) (p : Addr) (hp : g ≠ p.block) (v : Value) : Box (w.setCell p v) g e vals := h.keep (Below.heap_setCell w p v g hp)
theorem Box.alloc (w : World) (e : Nat) (vals : List Value) : Box (w.alloc (.cells vals.toArray e)) w.heap.size e vals := by
 unfold Box
 show (w.heap.push _)[w.heap.size]? = _
 exact Array.getElem?_push_size
end
def Xb (X : Nat → Prop) (g : Nat) : Nat → Prop := fun k => X k ∨ k = g
theorem Xb_new {X : Nat → Prop} {w : World} {g : Nat} (h : w.heap.size ≤ g) : ∀ k, k < w.heap.size → Xb X g k → X k := fun k hk hx => hx.elim id (fun e => by omega)
theorem Xp_swap {X : Nat → Prop} {a c : Value} (k : Nat) : Xp (Xp X a) c k ↔ Xp (Xp X c) a k := ⟨fun h => h.elim (fun h => h.elim (fun h => .inl (.inl h)) .inr) (fun h => .inl (.inr h)), fun h => h.elim (fun h => h.elim (fun h => .inl (.inl h)) .inr) (fun h => .inl (.inr h))⟩
section
variable {α : Type} {d : Kd α} {e : Nat} {X X' : Nat → Prop} {w w1 : World} {b g : Nat} {v v1 : Value} {xs : List α}
theorem PV.iff (h : PV d X w v xs) (hX : ∀ k, X' k ↔ X k) : PV d X' w v xs := h.to (fun k _ => (hX k).1)
theorem Own.iff (h : Own d e X w b v xs) (hX : ∀ k, X' k ↔ X k) : Own d e X' w b v xs := h.to (fun k _ => (hX k).1) (fun k hk => (hX k).2 (h.2 k hk))
theorem PV.swap {a c : Value} (h : PV d (Xp (Xp X a) c) w v xs) : PV d (Xp (Xp X c) a) w v xs := h.iff (fun k => (Xp_swap k))
theorem Own.swap {a c : Value} (h : Own d e (Xp (Xp X a) c) w b v xs) : Own d e (Xp (Xp X c) a) w b v xs := h.iff (fun k => (Xp_swap k))
theorem PV.box (h : PV d X w v xs) (hx : X g) (i : Nat) (u : Value) : PV d X (w.setCell ⟨g, i, none⟩ u) v xs := h.agree (.setCell w hx u)
theorem Own.box (h : Own d e X w b v xs) (hx : X g) (hne : ∀ k, v.ownBlock = some k → k ≠ g) (i : Nat) (u : Value) : Own d e X (w.setCell ⟨g, i, none⟩ u) b v xs :=
 h.agree (.setCell w hx u) (fun k hk => Below.heap_setCell w _ u k (hne k hk))
theorem PV.new (h : PV d X w v xs) (hb : Below w.heap.size w w1) (hg : w.heap.size ≤ g) : PV d (Xb X g) w1 v xs := h.step (Xb_new hg) (.of_below hb)
theorem Own.rest (h : Own d e X w b v xs) (hX : ∀ k, k < w.heap.size → X' k → X k) (hv : ∀ k, v.ownBlock = some k → ¬ X' k) : PV d X' w v xs := h.sealRo hX hv
theorem Own.ne_box {e2 : Nat} {vals : List Value} (h : Own d e X w b v xs) (hg : Box w g e2 vals) (he : e ≠ e2) : ∀ k, v.ownBlock = some k → k ≠ g := fun k hk hkg => by
 obtain ⟨c1, h3⟩ := h.typed k hk
 unfold Box at hg
 rw [hkg, hg] at h3
 cases h3
 exact he rfl
end
section
variable {k : IntKind} {e b : Nat} {X : Nat → Prop} {w : World} {v : Value} {xs : List Int}
theorem Own.toR (h : Own (Kd.int k) e X w b v xs) : Kd.R (Kd.int k) e w b (fun k => v.ownBlock = some k) v xs := by
 obtain ⟨⟨inner, ho, hr⟩, _⟩ := h
 refine ⟨fun k hk => hk, inner, ho, hr.imp_ (fun p c hp => ?_)⟩
 obtain rfl := PK.of_scalar hp
 rfl
theorem Own.ofR {ok : Nat → Prop} (h : Kd.R (Kd.int k) e w b ok v xs) (hX : ∀ k, v.ownBlock = some k → X k) : Own (Kd.int k) e X w b v xs := by
 obtain ⟨_, inner, ho, hr⟩ := h
 refine ⟨⟨inner, ho, hr.imp_ (fun p c hp => ?_)⟩, hX⟩
 obtain rfl : c = [.int k p] := hp
 exact PK.scalar p
theorem own_int (h : Own (Kd.int k) e X w b v xs) (j : Nat) (hj : j < xs.length) :
  ∃ g c, v = .slice (some ⟨g, 0, none⟩) xs.length c ∧ b ≤ g ∧ g < w.heap.size ∧ w.cell? ⟨g, j, none⟩ = some (.int k (xs.getD j 0)) ∧ w.frozen? ⟨g, j, none⟩ = false ∧
   ∀ q, Own (Kd.int k) e X (w.setCell ⟨g, j, none⟩ (.int k q)) b v (xs.set j q) := by
 have hR := h.toR
 obtain ⟨g, c, rfl, hg, hlt, _⟩ := Kd.R_form hR (by omega)
 obtain ⟨cs, h1, h2, h3, h4⟩ := Kd.R_elem hR 0 (j : Int) (by omega) (by omega)
 obtain rfl : cs = [.int k (xs.getD j 0)] := h2
 simp only [Int.toNat_natCast] at h3 h4
 have hsz : (Kd.int k).sz = 1 := rfl
 have y1 := h3 0 _ rfl
 have y4 := h4 0
 rw [hsz] at y1 y4
 refine ⟨g, c, rfl, hg, hlt, by simpa using y1, by simpa using y4, fun q => ?_⟩
 have hs := (Kd.R_seg (seg := [.int k q]) (j := 0) (x' := q) (okp := fun k => (Value.slice (some ⟨g, 0, none⟩) xs.length c).ownBlock = some k ∧ k ≠ g) hR (j : Int) (by omega) (by omega) h1 (by simpa using h3) (by show 0 + 1 ≤ 1; omega) rfl (fun _ h => h)).1
 exact Own.ofR (by simpa [World.setCells, hsz] using hs) h.2
theorem mkrow {P : Program} {ops : Array Oper} {rest : List Oper} {o : Oper} {a : Act} {Q : Exit → Act → World → Prop} (k : IntKind) (e : Nat) {Y : Nat → Prop} {W w0 : World} (b : Nat) (hgd : o.guard = none) {N : Tmp} (hd : o.dst = some N) (t : TypeId) (x y : Operand) (ho : o.op = .makeSlice t x y) (n : Nat) (hx : a.eval x = .int .i64 (n : Int)) (hy : a.eval y = .int .i64 (n : Int))
  (ht : P.underlying t = some (.slice e)) (bytes : Nat) (hinfo : (P.info? e).map (fun i => (i.zero, i.size, i.bytes)) = some (some (.int k 0), 1, bytes)) (hb0 : 0 < bytes) (hl : n * bytes ≤ 281474976710656) (HB : Below b w0 W) (hbase : b ≤ W.heap.size)
  (h : ∀ v1 w1, Own (Kd.int k) e (Xp Y v1) w1 b v1 (List.replicate n 0) → Below b w0 w1 → W.grownBy w1 none → (∃ g, v1.ownBlock = some g ∧ W.heap.size ≤ g) → wpList P ops Q rest (a.put o.dst v1) w1) : wpList P ops Q (o :: rest) a W := by
 refine Kd.R_make (Kd.int k) b e hgd hd t x y ho (n : Int) hx hy ht (.int k 0) bytes hinfo rfl (by show 0 < 1; omega) hb0 0 (ok := fun _ => True) (okp := fun _ => True) rfl (fun _ _ => trivial) trivial (by omega) (by simpa using hl) HB hbase ?_
 intro v1 w1 hR hb hg hat
 rw [Int.toNat_natCast] at hR
 exact h v1 w1 (Own.ofR hR (fun k hk => .inr hk)) hb hg hat
end
inductive Item : Type 1
 | row {α : Type} (d : Kd α) (e : Nat) (v : Value) (xs : List α)
 | box (g e : Nat) (vals : List Value)
 | ro {α : Type} (d : Kd α) (v : Value) (xs : List α)
 | obj (g : Nat) (Pr : Obj → Prop)
def Item.blk : Item → Option Nat
 | .row _ _ v _ => v.ownBlock
 | .box g _ _ => some g
 | .ro _ _ _ => none
 | .obj g _ => some g
def Item.ok (Y : Nat → Prop) (b : Nat) (w : World) : Item → Prop
 | .row d e v xs => Own d e Y w b v xs
 | .box g e vals => Box w g e vals ∧ b ≤ g
 | .ro d v xs => PV d Y w v xs
 | .obj g Pr => (∃ o, w.heap[g]? = some o ∧ Pr o) ∧ b ≤ g
def Ys (X : Nat → Prop) (L : List Item) : Nat → Prop := fun k => X k ∨ ∃ it ∈ L, it.blk = some k
def Apart (a c : Item) : Prop := ∀ k, a.blk = some k → c.blk ≠ some k
theorem Apart.symm {a c : Item} (h : Apart a c) : Apart c a := fun k hc ha => h k ha hc
structure Sep (X : Nat → Prop) (w0 w : World) (L : List Item) : Prop where
 ok : ∀ it ∈ L, it.ok (Ys X L) w0.heap.size w
 ne : L.Pairwise Apart
 old : ∀ k, X k → k < w0.heap.size
 below : Below w0.heap.size w0 w
section
variable {X : Nat → Prop} {w0 w w1 : World} {L L' : List Item} {i : Nat} {it : Item}
theorem Item.ok_lt {Y : Nat → Prop} {b : Nat} (h : it.ok Y b w) {k : Nat} (hk : it.blk = some k) : k < w.heap.size ∧ b ≤ k := by
 cases it with
 | row d e v xs => exact ⟨Own.lt h k hk, Own.base h k hk⟩
 | box g e vals => cases hk; exact ⟨h.1.lt, h.2⟩
 | ro d v xs => cases hk
 | obj g Pr =>
  cases hk
  obtain ⟨⟨o, h1, _⟩, h2⟩ := h
  exact ⟨(Array.getElem?_eq_some_iff.1 h1).1, h2⟩
theorem Item.ok_step {Y Y' : Nat → Prop} {b : Nat} (h : it.ok Y b w) (hY : ∀ k, k < w.heap.size → Y' k → Y k) (hv : ∀ k, it.blk = some k → Y' k) (ha : Agree Y w w1) (hb : ∀ k, it.blk = some k → w1.heap[k]? = w.heap[k]?) : it.ok Y' b w1 := by
 cases it with
 | row d e v xs => exact Own.step h hY ha hb hv
 | box g e vals => exact ⟨h.1.keep (hb g rfl), h.2⟩
 | ro d v xs => exact PV.step h hY ha
 | obj g Pr =>
  obtain ⟨⟨o, h1, h3⟩, h2⟩ := h
  exact ⟨⟨o, (hb g rfl).trans h1, h3⟩, h2⟩
theorem Sep.at_ (h : Sep X w0 w L) (hi : L[i]? = some it) : it.ok (Ys X L) w0.heap.size w := h.ok it (List.mem_of_getElem? hi)
theorem Sep.apart {j : Nat} {a c : Item} (h : Sep X w0 w L) (hi : L[i]? = some a) (hj : L[j]? = some c) (hne : i ≠ j) : Apart a c := by
 obtain ⟨h1, rfl⟩ := List.getElem?_eq_some_iff.1 hi
 obtain ⟨h2, rfl⟩ := List.getElem?_eq_some_iff.1 hj
 have hp := List.pairwise_iff_getElem.1 h.ne
 rcases Nat.lt_or_ge i j with c | c
 ·exact hp i j h1 h2 c
 ·exact (hp j i h2 h1 (by omega)).symm
theorem mem_set {x : Item} (h : it ∈ L.set i x) : it = x ∨ ∃ j, j ≠ i ∧ L[j]? = some it := by
 obtain ⟨j, hj⟩ := List.mem_iff_getElem?.1 h
 rw [List.getElem?_set] at hj
 split at hj
 ·split at hj
  ·exact .inl (Option.some.inj hj).symm
  ·cases hj
 ·exact .inr ⟨j, fun e => by simp_all, hj⟩
theorem pw_set {x : Item} (h : L.Pairwise Apart) (hx : ∀ j c, j ≠ i → L[j]? = some c → Apart x c) : (L.set i x).Pairwise Apart := by
 rw [List.pairwise_iff_getElem] at h ⊢
 intro a c ha hc hac
 rw [List.length_set] at ha hc
 rw [List.getElem_set, List.getElem_set]
 split
 ·next e =>
  split
  ·omega
  ·exact hx c _ (by omega) (List.getElem?_eq_getElem hc)
 ·split
  ·exact (hx a _ (by omega) (List.getElem?_eq_getElem ha)).symm
  ·exact h a c ha hc hac
theorem Sep.lt (h : Sep X w0 w L) : ∀ k, Ys X L k → k < w.heap.size := by
 rintro k (hk | ⟨it, hm, hk⟩)
 ·exact Nat.lt_of_lt_of_le (h.old k hk) h.below.size
 ·exact (Item.ok_lt (h.ok it hm) hk).1
theorem Sep.start (hX : ∀ k, X k → k < w0.heap.size) : Sep X w0 w0 [] := ⟨fun _ h => by simp at h, List.Pairwise.nil, hX, Below.refl _ _⟩
theorem Sep.arg {α : Type} {d : Kd α} {v : Value} {xs : List α} (h : Sep X w0 w L) (ha : PV d X w0 v xs) : PV d (Ys X L) w v xs := by
 refine ha.step ?_ (.of_below h.below)
 rintro k hk (hx | ⟨it, hm, hb⟩)
 ·exact hx
 ·have := (Item.ok_lt (h.ok it hm) hb).2
  omega
theorem Sep.call (h : Sep X w0 w L) (hb : Below w.heap.size w w1) : Sep X w0 w1 L :=
 ⟨fun it hm => Item.ok_step (h.ok it hm) (fun _ _ hk => hk) (fun k hk => .inr ⟨it, hm, hk⟩) (.of_below hb) (fun k hk => hb.block k (Item.ok_lt (h.ok it hm) hk).1), h.ne, h.old, below_step h.below hb⟩
theorem Sep.drew (h : Sep X w0 w L) : Sep X w0 w.drew L := h.call (below_drew (Below.refl _ _))
theorem Sep.drewN (h : Sep X w0 w L) (n : Nat) : Sep X w0 (w.drewN n) L := h.call (bn w n)
theorem Sep.push (h : Sep X w0 w L) (hb : Below w.heap.size w w1) (hn : ∀ k, it.blk = some k → w.heap.size ≤ k) (hit : it.ok (Ys X (L ++ [it])) w0.heap.size w1) : Sep X w0 w1 (L ++ [it]) := by
 refine ⟨fun a ha => ?_, ?_, h.old, below_step h.below hb⟩
 ·rcases List.mem_append.1 ha with hm | hm
  ·refine Item.ok_step (h.ok a hm) ?_ (fun k hk => .inr ⟨a, ha, hk⟩) (.of_below hb) (fun k hk => hb.block k (Item.ok_lt (h.ok a hm) hk).1)
   rintro k hk (hx | ⟨c, hc, hcb⟩)
   ·exact .inl hx
   ·rcases List.mem_append.1 hc with hc | hc
    ·exact .inr ⟨c, hc, hcb⟩
    ·obtain rfl := List.mem_singleton.1 hc
     have := hn k hcb
     omega
  ·obtain rfl := List.mem_singleton.1 hm
   exact hit
 ·refine List.pairwise_append.2 ⟨h.ne, List.pairwise_singleton _ _, fun a ha c hc k hk hck => ?_⟩
  obtain rfl := List.mem_singleton.1 hc
  have := hn k hck
  have := (Item.ok_lt (h.ok a ha) hk).1
  omega
theorem Ys_ro {α : Type} {d : Kd α} {v : Value} {xs : List α} {k : Nat} : Ys X (L ++ [.ro d v xs]) k → Ys X L k := by
 rintro (hx | ⟨c, hc, hcb⟩)
 ·exact .inl hx
 ·rcases List.mem_append.1 hc with hc | hc
  ·exact .inr ⟨c, hc, hcb⟩
  ·obtain rfl := List.mem_singleton.1 hc
   cases hcb
theorem Sep.push_ro {α : Type} {d : Kd α} {v : Value} {xs : List α} (h : Sep X w0 w L) (hb : Below w.heap.size w w1) (hv : PV d (Ys X L) w1 v xs) : Sep X w0 w1 (L ++ [.ro d v xs]) :=
 h.push hb (fun k hk => by cases hk) (hv.to (fun k _ hk => Ys_ro hk))
theorem Sep.push_nil {α : Type} (d : Kd α) (e : Nat) (h : Sep X w0 w L) : Sep X w0 w (L ++ [.row d e (.slice none 0 0) []]) :=
 h.push (Below.refl _ _) (fun k hk => by simp [Item.blk, Value.ownBlock] at hk) (Own.nil _ _ _ _ _)
theorem Sep.push_box (h : Sep X w0 w L) (vals : List Value) (e : Nat) : Sep X w0 (w.alloc (.cells vals.toArray e)) (L ++ [.box w.heap.size e vals]) :=
 h.push (below_alloc (Below.refl _ _) _) (fun k hk => by cases hk; exact Nat.le_refl _) ⟨Box.alloc w e vals, h.below.size⟩
theorem Sep.push_box' (h : Sep X w0 w L) (vals : List Value) (e g : Nat) (hg : g = w.heap.size) : Sep X w0 (w.alloc (.cells vals.toArray e)) (L ++ [.box g e vals]) := by
 subst hg
 exact h.push_box vals e
theorem Sep.sub (h : Sep X w0 w L) (hs : L'.Sublist L) : Sep X w0 w L' := by
 refine ⟨fun a ha => Item.ok_step (h.ok a (hs.subset ha)) ?_ (fun k hk => .inr ⟨a, ha, hk⟩) (Agree.refl _ _) (fun _ _ => rfl), h.ne.sublist hs, h.old, h.below⟩
 rintro k hk (hx | ⟨c, hc, hcb⟩)
 ·exact .inl hx
 ·exact .inr ⟨c, hs.subset hc, hcb⟩
theorem Sep.take (h : Sep X w0 w L) (n : Nat) : Sep X w0 w (L.take n) := h.sub (List.take_sublist _ _)
theorem Sep.erase (h : Sep X w0 w L) (n : Nat) : Sep X w0 w (L.eraseIdx n) := h.sub (List.eraseIdx_sublist _ _)
theorem Sep.update {it1 : Item} (h : Sep X w0 w L) (hi : L[i]? = some it) (hY : ∀ k, k < w.heap.size → it1.blk = some k → it.blk = some k) (ha : Agree (fun k => it.blk = some k) w w1)
  (hit : it1.ok (Ys X (L.set i it1)) w0.heap.size w1) : Sep X w0 w1 (L.set i it1) := by
 have hlt : i < L.length := (List.getElem?_eq_some_iff.1 hi).1
 have hm0 : it ∈ L := List.mem_of_getElem? hi
 have hall : ∀ j c, j ≠ i → L[j]? = some c → c ∈ L.set i it1 := fun j c hj hc => List.mem_iff_getElem?.2 ⟨j, by rw [List.getElem?_set, if_neg (fun e => hj e.symm)]; exact hc⟩
 refine ⟨fun a ha' => ?_, ?_, h.old, ?_⟩
 ·rcases mem_set ha' with rfl | ⟨j, hj, hc⟩
  ·exact hit
  ·have hap := h.apart hc hi hj
   refine Item.ok_step (h.at_ hc) ?_ (fun k hk => .inr ⟨a, ha', hk⟩) (ha.mono (fun k _ hk => .inr ⟨it, hm0, hk⟩)) (fun k hk => ha.block k (Item.ok_lt (h.at_ hc) hk).1 (hap k hk))
   rintro k hk (hx | ⟨c, hc, hcb⟩)
   ·exact .inl hx
   ·rcases mem_set hc with rfl | ⟨j', _, hc'⟩
    ·exact .inr ⟨it, hm0, hY k hk hcb⟩
    ·exact .inr ⟨c, List.mem_of_getElem? hc', hcb⟩
 ·refine pw_set h.ne (fun j c hj hc k hk hck => ?_)
  have hcl := (Item.ok_lt (h.at_ hc) hck).1
  exact h.apart hi hc (fun e => hj e.symm) k (hY k hcl hk) hck
 ·exact ⟨ha.os.trans h.below.os, ha.tape.trans h.below.tape, ha.output.trans h.below.output, Nat.le_trans h.below.size ha.size, fun k hk => (ha.block k (Nat.lt_of_lt_of_le hk h.below.size) (fun e => by have := (Item.ok_lt (h.at_ hi) e).2; omega)).trans (h.below.block k hk)⟩
theorem Ys_set {it1 : Item} (hi : L[i]? = some it) {k : Nat} (h : it1.blk = some k) : Ys X (L.set i it1) k := .inr ⟨it1, List.mem_iff_getElem?.2 ⟨i, by rw [List.getElem?_set, if_pos rfl, if_pos (List.getElem?_eq_some_iff.1 hi).1]⟩, h⟩
section
variable {α : Type} {d : Kd α} {e : Nat} {v : Value} {xs : List α}
theorem Sep.ro (h : Sep X w0 w L) (i : Nat) (hi : L[i]? = some (.ro d v xs)) : PV d (Ys X L) w v xs := h.at_ hi
theorem Sep.row (h : Sep X w0 w L) (i : Nat) (hi : L[i]? = some (.row d e v xs)) : Own d e (Ys X L) w w0.heap.size v xs := h.at_ hi
theorem Sep.box {g : Nat} {vals : List Value} (h : Sep X w0 w L) (i : Nat) (hi : L[i]? = some (.box g e vals)) : Box w g e vals := (h.at_ hi).1
theorem Sep.box_le {g : Nat} {vals : List Value} (h : Sep X w0 w L) (i : Nat) (hi : L[i]? = some (.box g e vals)) : w0.heap.size ≤ g := (h.at_ hi).2
theorem Sep.form (h : Sep X w0 w L) (i : Nat) (hi : L[i]? = some (.row d e v xs)) : ∃ A c, v = .slice A xs.length c := by
 obtain ⟨A, c, h1, _⟩ := (h.row i hi).now
 exact ⟨A, c, h1⟩
theorem Sep.rform (h : Sep X w0 w L) (i : Nat) (hi : L[i]? = some (.ro d v xs)) : ∃ A c, v = .slice A xs.length c := by
 obtain ⟨A, c, h1, _⟩ := (h.ro i hi).now
 exact ⟨A, c, h1⟩
theorem Sep.sealRo (h : Sep X w0 w L) (i : Nat) (hi : L[i]? = some (.row d e v xs)) : Sep X w0 w (L.set i (.ro d v xs)) := by
 refine h.update hi (fun k _ hk => by cases hk) (Agree.refl _ _) ((h.row i hi).sealRo ?_ ?_)
 ·rintro k hk (hx | ⟨c, hc, hcb⟩)
  ·exact .inl hx
  ·rcases mem_set hc with rfl | ⟨j, _, hc'⟩
   ·cases hcb
   ·exact .inr ⟨c, List.mem_of_getElem? hc', hcb⟩
 ·rintro k hk (hx | ⟨c, hc, hcb⟩)
  ·have := h.old k hx
   have := (h.row i hi).base k hk
   omega
  ·rcases mem_set hc with rfl | ⟨j, hj, hc'⟩
   ·cases hcb
   ·exact h.apart hi hc' (fun e => hj e.symm) k hk hcb
theorem Sep.res (h : Sep X w0 w L) (i : Nat) (hi : L[i]? = some (.ro d v xs)) : PV d X w v xs := (h.ro i hi).to (fun k _ hk => .inl hk)
theorem Sep.res_row (h : Sep X w0 w L) (i : Nat) (hi : L[i]? = some (.row d e v xs)) : PV d X w v xs :=
 (h.row i hi).sealRo (fun k _ hk => .inl hk) (fun k hk hx => by have := h.old k hx; have := (h.row i hi).base k hk; omega)
theorem Sep.set_box {g : Nat} {vals : List Value} (h : Sep X w0 w L) (i : Nat) (hi : L[i]? = some (.box g e vals)) (j : Nat) (u : Value) : Sep X w0 (w.setCell ⟨g, j, none⟩ u) (L.set i (.box g e (vals.set j u))) :=
 h.update hi (fun k _ hk => hk) (Agree.setCell (X := fun k => (Item.box g e vals).blk = some k) (p := ⟨g, j, none⟩) w rfl u) ⟨(h.box i hi).set j u, h.box_le i hi⟩
theorem Sep.int {k : IntKind} {ns : List Int} (h : Sep X w0 w L) (i : Nat) (hi : L[i]? = some (.row (Kd.int k) e v ns)) (j : Nat) (hj : j < ns.length) :
  ∃ g c, v = .slice (some ⟨g, 0, none⟩) ns.length c ∧ w.cell? ⟨g, j, none⟩ = some (.int k (ns.getD j 0)) ∧ w.frozen? ⟨g, j, none⟩ = false ∧
   ∀ q, Sep X w0 (w.setCell ⟨g, j, none⟩ (.int k q)) (L.set i (.row (Kd.int k) e v (ns.set j q))) := by
 obtain ⟨g, c, h1, h2, h3, h4, h5, h6⟩ := own_int (h.row i hi) j hj
 refine ⟨g, c, h1, h4, h5, fun q => ?_⟩
 have hblk : (Item.row (Kd.int k) e v ns).blk = some g := by rw [h1]; rfl
 exact h.update hi (fun k _ hk => hk) (.setCell (p := ⟨g, j, none⟩) w hblk _) ((h6 q).to (fun k' hk' hk => (by
  rcases hk with hx | ⟨c', hc', hcb⟩
  ·exact .inl hx
  ·rcases mem_set hc' with rfl | ⟨j', _, hc''⟩
   ·exact .inr ⟨_, List.mem_of_getElem? hi, hcb⟩
   ·exact .inr ⟨c', List.mem_of_getElem? hc'', hcb⟩)) (fun k' hk' => Ys_set hi hk'))
end
theorem grow_run {P : Program} {α : Type} (d : Kd α) {Y : Nat → Prop} {W : World} (b : Nat) (t e ty : TypeId) (z : Value) (bytes : Nat)
  (ht : P.underlying t = some (.slice e)) (hinfo : (P.info? e).map (fun i => (i.zero, i.size, i.bytes)) = some (some z, d.sz, bytes)) (hz : z.cells.size = d.sz) (hs0 : 0 < d.sz) (hb0 : 0 < bytes)
  (v u : Value) (xs ys : List α) (HO : Own d e (Xp Y v) W b v xs) (HY : PV d (Xp Y v) W u ys) (hbase : b ≤ W.heap.size) (hl : (xs.length + ys.length) * bytes ≤ 140737488355328) :
  ∃ v1 w1, (Builtin.append_ #[t, t] ty #[v, u]).run P W = .ok v1 w1 ∧ Own d e (Xp Y v1) w1 b v1 (xs ++ ys) ∧ At W v v1 ∧ W.grownBy w1 v.ownBlock := by
 obtain ⟨i0, hi, hzz⟩ := Option.map_eq_some_iff.1 hinfo
 simp only [Prod.mk.injEq] at hzz
 obtain ⟨hz0, hz1, hz2⟩ := hzz
 obtain ⟨A, c, rfl, hc, hC⟩ := HY
 have hlen : xs.length + ys.length ≤ 140737488355328 := Nat.le_trans (Nat.le_mul_of_pos_right _ hb0) hl
 obtain ⟨⟨inner, hown, hr⟩, hX⟩ := HO
 rcases A with _ | ad
 ·have h0 : ys = [] := by
   rcases Nat.eq_zero_or_pos ys.length with h0 | h0
   ·exact List.eq_nil_of_length_eq_zero h0
   ·obtain ⟨ad, h, _⟩ := (hC W (Agree.refl _ W)).2.2 h0
    cases h
  subst h0
  refine ⟨v, W, ?_, by rw [List.append_nil]; exact ⟨⟨inner, hown, hr⟩, hX⟩, .inl rfl, World.grownBy.refl W _⟩
  rcases hown.2 with ⟨rfl, hn⟩ | ⟨g, cap, cur, rfl, _, _, hnc, _⟩
  ·simp [Builtin.append_, run_underlying ht, sizeOf, typeInfo, hi, Builtin.lenOf, Builtin.firstCells]
  ·simp [Builtin.append_, run_underlying ht, sizeOf, typeInfo, hi, Builtin.lenOf, Builtin.firstCells, hnc, storeCells]
 ·have hPV : PV d (Xp Y v) W (.slice (some ad) ys.length c) ys := ⟨some ad, c, rfl, hc, hC⟩
  have hrows : ∃ news : List Value, Reps (PK d (Xp Y v) W) d.sz ys news ∧ ∀ j q, news[j]? = some q → W.cell? (ad.add j) = some q := by
   have step : ∀ m, m ≤ ys.length → ∃ news : List Value, Reps (PK d (Xp Y v) W) d.sz (ys.take m) news ∧ ∀ j q, news[j]? = some q → W.cell? (ad.add j) = some q := by
    intro m
    induction m with
    | zero => exact fun _ => ⟨[], by rw [List.take_zero]; exact Reps.none _ _, fun j q hq => by simp at hq⟩
    | succ m ih =>
     intro hm
     obtain ⟨news, h1, h2⟩ := ih (by omega)
     obtain ⟨ad2, c2, cs, he, hl, hK, hcell⟩ := hPV.elem ys[m] m (by omega) hs0
     cases he
     rw [show ys.getD m ys[m] = ys[m] by simp [List.getD_eq_getElem?_getD, show m < ys.length by omega]] at hK
     refine ⟨news ++ cs, ?_, fun j q hq => ?_⟩
     ·rw [List.take_succ_eq_append_getElem (by omega)]
      exact h1.snoc hK hl
     ·have hnl : news.length = m * d.sz := by rw [h1.1, List.length_take, Nat.min_eq_left (by omega)]
      rcases Nat.lt_or_ge j news.length with hj | hj
      ·rw [List.getElem?_append_left hj] at hq
       exact h2 j q hq
      ·rw [List.getElem?_append_right hj] at hq
       have := hcell _ _ hq
       rw [← hnl, Nat.add_sub_cancel' hj] at this
       exact this
   obtain ⟨news, h1, h2⟩ := step ys.length (Nat.le_refl _)
   rw [List.take_length] at h1
   exact ⟨news, h1, h2⟩
  obtain ⟨news, hnr, hnc⟩ := hrows
  have hone : ∀ q ∈ news, q.oneCell' = true := by
   intro q0 hu
   obtain ⟨q, hq, rfl⟩ := List.mem_iff_getElem.1 hu
   have hql : q / d.sz < ys.length := by
    rw [Nat.div_lt_iff_lt_mul hs0]
    rw [← hnr.1]
    exact hq
   have hc := hnr.2 (q / d.sz) _ (List.getElem?_eq_getElem hql)
   refine d.K_one (hc W (Agree.refl _ W)) _ ?_
   rw [List.mem_iff_getElem?]
   refine ⟨q % d.sz, ?_⟩
   rw [List.getElem?_take, if_pos (Nat.mod_lt _ hs0), List.getElem?_drop, Nat.mul_comm, Nat.div_add_mod, List.getElem?_eq_getElem hq]
  obtain ⟨v1, w1, hrun, h2, hg, _, hat⟩ := run_append_own_at (P := P) W b t ty e i0 z d.sz bytes ht hi hz0 hz1 hz2 hz hs0 v xs.length inner hown ad ys.length c news hnr.1 hnc hone (by simp only [maxLen]; omega) hl hbase
  have hat' : At W v v1 := by
   rcases hat with hat | hat
   ·exact .inl hat
   ·exact .inr ⟨_, hat, Nat.le_refl _⟩
  have ha : Agree (Xp Y v) W w1 := .of_grown hg (fun k hk => .inr hk)
  exact ⟨v1, w1, hrun, ⟨⟨inner ++ news, by rw [lA]; exact h2, Kd.reps_append (hr.imp_ (fun _ _ hq => hq.step (Xp_at hat') ha)) (hnr.imp_ (fun _ _ hq => hq.step (Xp_at hat') ha))⟩, fun k hk => .inr hk⟩, hat', hg⟩
theorem Sep.grow {P : Program} {α : Type} (d : Kd α) (i : Nat) (t e ty : TypeId) (z : Value) (bytes : Nat)
  (ht : P.underlying t = some (.slice e)) (hinfo : (P.info? e).map (fun i => (i.zero, i.size, i.bytes)) = some (some z, d.sz, bytes)) (hz : z.cells.size = d.sz) (hs0 : 0 < d.sz) (hb0 : 0 < bytes)
  (v u : Value) (xs ys : List α) (HS : Sep X w0 w L) (hi : L[i]? = some (.row d e v xs)) (HY : PV d (Ys X L) w u ys) (hl : (xs.length + ys.length) * bytes ≤ 140737488355328) :
  ∃ v1 w1, (Builtin.append_ #[t, t] ty #[v, u]).run P w = .ok v1 w1 ∧ Sep X w0 w1 (L.set i (.row d e v1 (xs ++ ys))) := by
 obtain ⟨Y, hY⟩ : ∃ Y : Nat → Prop, Y = fun k => X k ∨ ∃ j c, j ≠ i ∧ L[j]? = some c ∧ c.blk = some k := ⟨_, rfl⟩
 have hiff : ∀ k, Xp Y v k ↔ Ys X L k := by
  intro k
  rw [hY]
  constructor
  ·rintro ((hx | ⟨j, c, _, hc, hk⟩) | hk)
   ·exact .inl hx
   ·exact .inr ⟨c, List.mem_of_getElem? hc, hk⟩
   ·exact .inr ⟨_, List.mem_of_getElem? hi, hk⟩
  ·rintro (hx | ⟨c, hc, hk⟩)
   ·exact .inl (.inl hx)
   ·obtain ⟨j, hj⟩ := List.mem_iff_getElem?.1 hc
    by_cases e : j = i
    ·subst e
     rw [hi] at hj
     cases hj
     exact .inr hk
    ·exact .inl (.inr ⟨j, c, e, hj, hk⟩)
 have hiff1 : ∀ v1 k, Ys X (L.set i (.row d e v1 (xs ++ ys))) k ↔ Xp Y v1 k := by
  intro v1 k
  rw [hY]
  constructor
  ·rintro (hx | ⟨c, hc, hk⟩)
   ·exact .inl (.inl hx)
   ·rcases mem_set hc with rfl | ⟨j, hj, hc'⟩
    ·exact .inr hk
    ·exact .inl (.inr ⟨j, c, hj, hc', hk⟩)
  ·rintro ((hx | ⟨j, c, hj, hc, hk⟩) | hk)
   ·exact .inl hx
   ·exact .inr ⟨c, List.mem_iff_getElem?.2 ⟨j, by rw [List.getElem?_set, if_neg (fun e => hj e.symm)]; exact hc⟩, hk⟩
   ·exact Ys_set hi hk
 obtain ⟨v1, w1, hrun, hown, hat, hg⟩ := grow_run d (Y := Y) w0.heap.size t e ty z bytes ht hinfo hz hs0 hb0 v u xs ys ((HS.row i hi).iff hiff) (HY.iff hiff) HS.below.size hl
 refine ⟨v1, w1, hrun, HS.update hi (fun k hk hb => ?_) (.of_grown hg (fun k hk => hk)) (hown.iff (hiff1 v1))⟩
 rcases hat with hat | ⟨b, hat, hb2⟩
 ·exact hat.symm.trans hb
 ·have hb' : v1.ownBlock = some k := hb
  rw [hat] at hb'
  cases hb'
  omega
theorem Sep.lit {α : Type} (d : Kd α) (e : Nat) {xs : List α} {inner : List Value} (HS : Sep X w0 w L) (hrep : Reps (PK d (Ys X L) w) d.sz xs inner) (hm : xs.length ≤ 9223372036854775807) :
  Sep X w0 (w.alloc (.cells inner.toArray e)) (L ++ [.row d e (.slice (some ⟨w.heap.size, 0, none⟩) xs.length xs.length) xs]) := by
 obtain ⟨inner', h1, h2⟩ := OwnRow.lit (R := PK d (Ys X L) w) (e := e) (size := d.sz) w w.heap.size hrep (Nat.le_refl _) hm
 have hn : ∀ k, (Item.row d e (.slice (some ⟨w.heap.size, 0, none⟩) xs.length xs.length) xs).blk = some k → w.heap.size ≤ k := fun k hk => by
  simp [Item.blk, Value.ownBlock] at hk
  omega
 refine HS.push (below_alloc (Below.refl _ _) _) hn ⟨⟨inner', own_weaken h1 HS.below.size, h2.imp_ (fun _ _ hp => hp.step (X := Ys X L) ?_ (.alloc _ _ _))⟩, fun k hk => .inr ⟨_, List.mem_append_right _ (List.mem_singleton.2 rfl), hk⟩⟩
 rintro k hk (hx | ⟨c, hc, hcb⟩)
 ·exact .inl hx
 ·rcases List.mem_append.1 hc with hc | hc
  ·exact .inr ⟨c, hc, hcb⟩
  ·obtain rfl := List.mem_singleton.1 hc
   have := hn k hcb
   omega
theorem Sep.lit_ro {α : Type} (d : Kd α) (e : Nat) {xs : List α} {inner : List Value} (HS : Sep X w0 w L) (hrep : Reps (PK d (Ys X L) w) d.sz xs inner) (hm : xs.length ≤ 9223372036854775807) :
  Sep X w0 (w.alloc (.cells inner.toArray e)) (L ++ [.ro d (.slice (some ⟨w.heap.size, 0, none⟩) xs.length xs.length) xs]) := by
 have h := (HS.lit d e hrep hm).sealRo L.length (d := d) (e := e) (xs := xs) (by rw [List.getElem?_append_right (Nat.le_refl _), Nat.sub_self]; rfl)
 rwa [List.set_append, if_neg (by omega), Nat.sub_self] at h
section
variable {P : Program} {ops : Array Oper} {rest : List Oper} {o : Oper} {a : Act} {Q : Exit → Act → World → Prop} {α : Type}
theorem sgrow (d : Kd α) (i : Nat) (hgd : o.guard = none) (s x : Operand) (t e : TypeId) (z : Value) (bytes : Nat)
  (ho : o.op = .call { callee := .builtin .append, args := #[s, x], argTypes := #[t, t] })
  (ht : P.underlying t = some (.slice e)) (hinfo : (P.info? e).map (fun i => (i.zero, i.size, i.bytes)) = some (some z, d.sz, bytes)) (hz : z.cells.size = d.sz) (hs0 : 0 < d.sz) (hb0 : 0 < bytes)
  (v u : Value) (xs ys : List α) (hs : a.eval s = v) (hx : a.eval x = u)
  (HS : Sep X w0 w L) (hi : L[i]? = some (.row d e v xs)) (HY : PV d (Ys X L) w u ys) (hl : (xs.length + ys.length) * bytes ≤ 140737488355328)
  (h : ∀ v1 w1, Sep X w0 w1 (L.set i (.row d e v1 (xs ++ ys))) → wpList P ops Q rest (a.put o.dst v1) w1) :
  wpList P ops Q (o :: rest) a w := by
 obtain ⟨v1, w1, hr1, hs1⟩ := HS.grow (P := P) d i t e o.type z bytes ht hinfo hz hs0 hb0 v u xs ys hi HY hl
 refine wpList_plain hgd fun K hK => ?_
 unfold Oper.wp execOp
 simp only [ho, resolve, invoke, builtin, Sem.run_bind, Sem.run_pure, Result.andThen_ok, List.map_toArray, List.map_cons, List.map_nil, hs, hx, hr1]
 exact hK _ _ (h v1 w1 hs1)
theorem sgrow_step {N : Option Tmp} {K : Act → World → Prop} (d : Kd α) (i : Nat) (hw : Region.wanted o (yielded ops a.tmps) = true) (hN : o.dst = N) (s x : Operand) (t e : TypeId) (z : Value) (bytes : Nat)
  (ho : o.op = .call { callee := .builtin .append, args := #[s, x], argTypes := #[t, t] })
  (ht : P.underlying t = some (.slice e)) (hinfo : (P.info? e).map (fun i => (i.zero, i.size, i.bytes)) = some (some z, d.sz, bytes)) (hz : z.cells.size = d.sz) (hs0 : 0 < d.sz) (hb0 : 0 < bytes)
  (v u : Value) (xs ys : List α) (hs : a.eval s = v) (hx : a.eval x = u)
  (HS : Sep X w0 w L) (hi : L[i]? = some (.row d e v xs)) (HY : PV d (Ys X L) w u ys) (hl : (xs.length + ys.length) * bytes ≤ 140737488355328)
  (h : ∀ v1 w1, Sep X w0 w1 (L.set i (.row d e v1 (xs ++ ys))) → K (a.put N v1) w1) :
  if Region.wanted o (yielded ops a.tmps) = true then Oper.wp P o a w K Q else K (a.put N undef) w := by
 obtain ⟨v1, w1, hr1, hs1⟩ := HS.grow (P := P) d i t e o.type z bytes ht hinfo hz hs0 hb0 v u xs ys hi HY hl
 rw [if_pos hw]
 subst hN
 unfold Oper.wp execOp
 simp only [ho, resolve, invoke, builtin, Sem.run_bind, Sem.run_pure, Result.andThen_ok, List.map_toArray, List.map_cons, List.map_nil, hs, hx, hr1]
 exact h v1 w1 hs1
theorem slit (d : Kd α) (e : Nat) (hgd : o.guard = none) {N : Tmp} (hd : o.dst = some N) {xs : List α} {inner : List Value}
  (hrun : (execOp a.eval o).run P w = .ok (.value (.slice (some ⟨w.heap.size, 0, none⟩) xs.length xs.length)) (w.alloc (.cells inner.toArray e)))
  (HS : Sep X w0 w L) (hrep : Reps (PK d (Ys X L) w) d.sz xs inner) (hm : xs.length ≤ 9223372036854775807)
  (h : ∀ v1 w1, Sep X w0 w1 (L ++ [.ro d v1 xs]) → wpList P ops Q rest (a.put o.dst v1) w1) : wpList P ops Q (o :: rest) a w :=
 Kd.event_run hgd hrun (h _ _ (HS.lit_ro d e hrep hm))
theorem slit_row (d : Kd α) (e : Nat) (hgd : o.guard = none) {N : Tmp} (hd : o.dst = some N) {xs : List α} {inner : List Value}
  (hrun : (execOp a.eval o).run P w = .ok (.value (.slice (some ⟨w.heap.size, 0, none⟩) xs.length xs.length)) (w.alloc (.cells inner.toArray e)))
  (HS : Sep X w0 w L) (hrep : Reps (PK d (Ys X L) w) d.sz xs inner) (hm : xs.length ≤ 9223372036854775807)
  (h : ∀ v1 w1, Sep X w0 w1 (L ++ [.row d e v1 xs]) → wpList P ops Q rest (a.put o.dst v1) w1) : wpList P ops Q (o :: rest) a w := by
 exact Kd.event_run hgd hrun (h _ _ (HS.lit d e hrep hm))
theorem smake (k : IntKind) (e : Nat) (hgd : o.guard = none) {N : Tmp} (hd : o.dst = some N) (t : TypeId) (x y : Operand) (ho : o.op = .makeSlice t x y) (n : Nat) (hx : a.eval x = .int .i64 (n : Int)) (hy : a.eval y = .int .i64 (n : Int))
  (ht : P.underlying t = some (.slice e)) (bytes : Nat) (hinfo : (P.info? e).map (fun i => (i.zero, i.size, i.bytes)) = some (some (.int k 0), 1, bytes)) (hb0 : 0 < bytes) (hl : n * bytes ≤ 281474976710656) (HS : Sep X w0 w L)
  (h : ∀ v1 w1, Sep X w0 w1 (L ++ [.row (Kd.int k) e v1 (List.replicate n 0)]) → wpList P ops Q rest (a.put o.dst v1) w1) : wpList P ops Q (o :: rest) a w := by
 refine mkrow k e (Y := Ys X L) w0.heap.size hgd hd t x y ho n hx hy ht bytes hinfo hb0 hl HS.below HS.below.size ?_
 intro v1 w1 hown hb hg ⟨g, hg1, hg2⟩
 refine h v1 w1 (HS.push ((Agree.of_grown (X := fun _ => False) hg (fun k hk => by cases hk)).below (fun _ _ hk => hk)) (fun k' hk' => ?_) (hown.iff (fun k' => ?_)))
 ·have hk'' : v1.ownBlock = some k' := hk'
  rw [hg1] at hk''
  cases hk''
  exact hg2
 ·constructor
  ·rintro (hx | ⟨c, hc, hcb⟩)
   ·exact .inl (.inl hx)
   ·rcases List.mem_append.1 hc with hc | hc
    ·exact .inl (.inr ⟨c, hc, hcb⟩)
    ·obtain rfl := List.mem_singleton.1 hc
     exact .inr hcb
  ·rintro ((hx | ⟨c, hc, hcb⟩) | hk)
   ·exact .inl hx
   ·exact .inr ⟨c, List.mem_append_left _ hc, hcb⟩
   ·exact .inr ⟨_, List.mem_append_right _ (List.mem_singleton.2 rfl), hk⟩
end
end
end Go.Proofs.YtplhfgobeicegaaGreatDoor.PX
