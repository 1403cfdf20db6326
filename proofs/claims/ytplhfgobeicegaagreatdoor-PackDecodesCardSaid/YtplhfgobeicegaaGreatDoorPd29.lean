/- Part 29 of the proof: S14g, V15, V16, VP. -/
import Derived.Test.YtplhfgobeicegaaGreatDoorPd28
namespace Go.Proofs.YtplhfgobeicegaaGreatDoor.P
open Go Go.RowKit Go.Proofs.YtplhfgobeicegaaGreatDoorW.PrintWords Go.Proofs.YtplhfgobeicegaaGreatDoorW.PrintLast Go.Proofs.YtplhfgobeicegaaGreatDoorW.PrintMore Go.Proofs.YtplhfgobeicegaaGreatDoor.PX
set_option linter.unusedVariables false
set_option linter.unusedSimpArgs false
set_option maxRecDepth 100000
set_option maxHeartbeats 16000000 in
theorem same14_calls (X : Nat → Prop) (va vb vc vd ve vf : Value) (ca cb : List Int) (na nb : List (List Int)) (ta tb : List Int) (w : World) (hX : ∀ k, X k → k < w.heap.size)
  (hca : PV kU8 X w va ca) (hna : PV kRow X w vb na) (hta : PV kInt X w vc ta) (hcb : PV kU8 X w vd cb) (hnb : PV kRow X w ve nb) (htb : PV kInt X w vf tb) (ua : U8s ca) (ub : U8s cb) :
  Calls Tryz.prog 10 #[.agg #[va, vb, vc], .agg #[vd, ve, vf]] w fun e w' => e = .returned (.bool (decide (ca = cb ∧ na = nb ∧ ta = tb))) ∧ Below w.heap.size w w' := by
 have H0 := aM hca
 have H1 := aM hna
 have H2 := aM hta
 have H3 := aM hcb
 have H4 := aM hnb
 have H5 := aM htb
 obtain ⟨A0, c0, rfl, _, _⟩ := hca.now
 obtain ⟨A1, c1, rfl, _, _⟩ := hna.now
 obtain ⟨A2, c2, rfl, _, _⟩ := hta.now
 obtain ⟨A3, c3, rfl, _, _⟩ := hcb.now
 obtain ⟨A4, c4, rfl, _, _⟩ := hnb.now
 obtain ⟨A5, c5, rfl, _, _⟩ := htb.now
 have HS := aM (((Sep.start hX).push_box [.slice A0 ca.length c0, .slice A1 na.length c1, .slice A2 ta.length c2] 28).push_box' [.slice A3 cb.length c3, .slice A4 nb.length c4, .slice A5 tb.length c5] 28 (w.heap.size + 1) (by simp))
 have st1 := (HS.out.arg H0.out).str (P := Tryz.prog) Tryz.underlying24 Tryz.underlying5 Tryz.underlying9
 have st2 := (HS.out.arg H3.out).str (P := Tryz.prog) Tryz.underlying24 Tryz.underlying5 Tryz.underlying9
 have HI := aM (strOfNums_inj (a := ca) (b := cb) ua ub)
 generalize strOfNums ca = sa at *
 generalize strOfNums cb = sb at *
 clear hca hna hta hcb hnb htb hX
 rcases Decidable.em (ca = cb) with hc | hc
 case inl =>
  have hs : sa = sb := HI.out.2 hc
  obtain ⟨q, hq⟩ : ∃ q, q = decide (na = nb ∧ ta = tb) := ⟨_, rfl⟩
  rw [show decide (ca = cb ∧ na = nb ∧ ta = tb) = q by rw [hq]; simp [hc]]
  have HQ := aM hq.symm
  clear hq
  clear hc HI
  subst hs
  go_enter Tryz.func10, Tryz.ntmps10
  go_wp2_with (first
   | (go_at_call 35; (with_reducible refine (bsame13_calls _ _ _ _ _ na nb ta tb _ HS.out.lt (HS.out.arg H1.out) (HS.out.arg H2.out) (HS.out.arg H4.out) (HS.out.arg H5.out)).mono ?_); rintro ee w5 ⟨rfl, hb⟩; rw [HQ.out]; have hs := HS.out.call hb; clear hb; clear HS; have HS := aM hs; clear hs))
  go_ret
  exact ⟨rfl, HS.out.below⟩
 case inr =>
  have hs : ¬ sa = sb := fun h => hc (HI.out.1 h)
  have hs2 : ¬ sa.toList = sb.toList := fun h => hs (ByteArray.ext (by rw [ByteArray.toList_eq, ByteArray.toList_eq] at h; exact Array.ext' h))
  have e1 : decide (sa.toList = sb.toList) = false := dF hs2
  rw [show decide (ca = cb ∧ na = nb ∧ ta = tb) = false by simp [hc]]
  clear hc HI
  go_enter Tryz.func10, Tryz.ntmps10
  go_wp2_with fail
  go_ret
  exact ⟨rfl, HS.out.below⟩
end Go.Proofs.YtplhfgobeicegaaGreatDoor.P
namespace Go.Proofs.YtplhfgobeicegaaGreatDoor.P
open Go Go.RowKit Go.Proofs.YtplhfgobeicegaaGreatDoorW.PrintWords Go.Proofs.YtplhfgobeicegaaGreatDoorW.PrintLast Go.Proofs.YtplhfgobeicegaaGreatDoorW.PrintMore Go.Proofs.YtplhfgobeicegaaGreatDoor.PX
set_option linter.unusedVariables false
set_option linter.unusedSimpArgs false
set_option maxRecDepth 100000
theorem e_nil8 : U8s [] := fun _ h => by cases h
theorem e_a8 : U8s [97] := by unfold U8s; decide
theorem e1_calls (X : Nat → Prop) (w : World) (hX : ∀ k, X k → k < w.heap.size) :
  Calls Tryz.prog 5 #[.slice none 0 0, .int .u8 0, .slice none 0 0, .slice none 0 0] w fun e w' => ∃ a0 a1 a2, e = .returned (.agg #[a0, a1, a2]) ∧ PV kU8 X w' a0 eC ∧ PV kRow X w' a1 eN ∧ PV kInt X w' a2 eT ∧ Below w.heap.size w w' := by
 have h := table15_calls X _ _ _ [] 0 [] [] w hX (PV.nil _ _ _) (PV.nil _ _ _) (PV.nil _ _ _) (fun l hl => by cases hl) (by decide) (fun l hl => by cases hl) (fun l hl => by cases hl)
 rw [e_table] at h
 exact h
theorem e2_calls (X : Nat → Prop) (w : World) (hX : ∀ k, X k → k < w.heap.size) (vc vn vt : Value) (hc : PV kU8 X w vc eC) (hn : PV kRow X w vn eN) (ht : PV kInt X w vt eT) :
  Calls Tryz.prog 6 #[.agg #[vc, vn, vt]] w fun e w' => ∃ v, e = .returned (.tuple #[v, .int .u16 0]) ∧ PV kU8 X w' v eB ∧ Below w.heap.size w w' := by
 have h := encode_calls X vc vn vt eC eN eT w hX hc hn ht e_u8
 rw [e_enc] at h
 refine h.mono ?_
 rintro e w' ⟨v, rfl, hs⟩
 exact ⟨v, rfl, hs.res_row 0 rfl, hs.below⟩
theorem e3_calls (X : Nat → Prop) (w : World) (hX : ∀ k, X k → k < w.heap.size) (v : Value) (hb : PV kU8 X w v eB) :
  Calls Tryz.prog 9 #[v] w fun e w' => ∃ v0 v1 v2, e = .returned (.tuple #[.agg #[v0, v1, v2], .int .u16 0]) ∧ PV kU8 X w' v0 eC ∧ PV kRow X w' v1 eN ∧ PV kInt X w' v2 eT ∧ Below w.heap.size w w' := by
 have h := decode_calls X v eB w hX hb eB_u8
 rw [e_dec] at h
 exact h
theorem e4_calls (w : World) :
  Calls Tryz.prog 9 #[.slice none 0 0] w fun e w' => ∃ A0 c0 A1 c1 A2 c2, e = .returned (.tuple #[.agg #[.slice A0 0 c0, .slice A1 0 c1, .slice A2 0 c2], .int .u16 70]) ∧ Below w.heap.size w w' := by
 have h := decode_calls (fun _ => False) _ [] w (fun _ h => h.elim) (PV.nil _ _ _) e_nil8
 rw [e_dec0] at h
 refine h.mono ?_
 rintro e w' ⟨v0, v1, v2, he, h0, h1, h2, hb⟩
 obtain ⟨A0, c0, rfl⟩ := PV.lenlit2 h0 0 rfl
 obtain ⟨A1, c1, rfl⟩ := PV.lenlit2 h1 0 rfl
 obtain ⟨A2, c2, rfl⟩ := PV.lenlit2 h2 0 rfl
 exact ⟨A0, c0, A1, c1, A2, c2, he, hb⟩
theorem e5_calls (w : World) :
  Calls Tryz.prog 6 #[.agg #[.slice none 0 0, .slice none 0 0, .slice none 0 0]] w fun e w' => ∃ v, e = .returned (.tuple #[v, .int .u16 1]) ∧ Below w.heap.size w w' := by
 have h := encode_calls (fun _ => False) _ _ _ [] [] [] w (fun _ h => h.elim) (PV.nil _ _ _) (PV.nil _ _ _) (PV.nil _ _ _) e_nil8
 rw [e_enc0] at h
 refine h.mono ?_
 rintro e w' ⟨v, rfl, hs⟩
 exact ⟨v, rfl, hs.below⟩
theorem e6_calls (w : World) : Calls Tryz.prog 23 #[.slice none 0 0] w fun e w' => e = .returned (.int .u32 2166136261) ∧ w' = w := by
 have h := psum_calls (fun _ => False) _ [] w (PV.nil _ _ _) e_nil8
 rw [e_sum0] at h
 exact h
theorem e7_calls (X : Nat → Prop) (w : World) (v : Value) (hv : PV kU8 X w v [97]) : Calls Tryz.prog 23 #[v] w fun e w' => e = .returned (.int .u32 3826002220) ∧ w' = w := by
 have h := psum_calls X v [97] w hv e_a8
 rw [e_suma] at h
 exact h
theorem e8_calls (X : Nat → Prop) (w : World) (hX : ∀ k, X k → k < w.heap.size) (va vb vc vd ve vf : Value) (ha : PV kU8 X w va eC) (hb : PV kRow X w vb eN) (hc : PV kInt X w vc eT) (hd : PV kU8 X w vd eC) (he : PV kRow X w ve eN) (hf : PV kInt X w vf eT) :
  Calls Tryz.prog 10 #[.agg #[va, vb, vc], .agg #[vd, ve, vf]] w fun e w' => e = .returned (.bool true) ∧ Below w.heap.size w w' := by
 have h := same14_calls X va vb vc vd ve vf eC eC eN eN eT eT w hX ha hb hc hd he hf e_u8 e_u8
 rw [dT ⟨rfl, rfl, rfl⟩] at h
 exact h
theorem e9_cell {X : Nat → Prop} {w : World} {A : Option Addr} {c : Nat} (h : PV kU8 X w (.slice A 18 c) eB) : ∃ ad, A = some ad ∧ w.cell? ad = some (.int .u8 71) := by
 obtain ⟨ad, cd, ed, ya⟩ := u8_cell h 0 (by rw [e_len]; decide)
 rw [e_len] at ed
 rw [e_head] at ya
 cases ed
 exact ⟨ad, rfl, ya⟩
theorem e_lc : eC.length = 256 := rfl
theorem e_ln : eN.length = 1 := rfl
theorem e_lt : eT.length = 1 := rfl
attribute [local irreducible] eC eN eT eB
set_option maxHeartbeats 16000000 in
theorem known15_calls (w : World) : Calls Tryz.prog 8 #[] w fun e w' => e = .returned (.bool true) ∧ Below w.heap.size w w' := by
 have HS := aM (Sep.start (X := fun _ => False) (w0 := w) (fun _ h => h.elim))
 go_enter Tryz.func8, Tryz.ntmps8
 go_upto_region 2 with (first
  | (go_at_call 5; (refine (e1_calls _ _ HS.out.lt).mono ?_); rintro ee w5 ⟨a0, a1, a2, rfl, h0, h1, h2, hb⟩; obtain ⟨A0, c0, e0⟩ := PV.lenlit2 h0 256 e_lc; subst e0; obtain ⟨A1, c1, e1⟩ := PV.lenlit2 h1 1 e_ln; subst e1; obtain ⟨A2, c2, e2⟩ := PV.lenlit2 h2 1 e_lt; subst e2; have hs := (((HS.out.push_ro hb h0).push_ro (Below.refl _ _) (h1.to (fun _ _ h => Ys_ro h))).push_ro (Below.refl _ _) (h2.to (fun _ _ h => Ys_ro (Ys_ro h)))).push_box [.slice A0 256 c0, .slice A1 1 c1, .slice A2 1 c2] 28; simp only [List.nil_append, List.cons_append] at hs; clear h0 h1 h2 hb; clear HS; have HS := aM hs; clear hs))
 have xt0 := (HS.out.box 3 rfl).cell 0 rfl
 have xt1 := (HS.out.box 3 rfl).cell 1 rfl
 have xt2 := (HS.out.box 3 rfl).cell 2 rfl
 go_upto_region 4 with (first
  | (go_at_call 6; (refine (e2_calls _ _ HS.out.lt _ _ _ (HS.out.ro 0 rfl) (HS.out.ro 1 rfl) (HS.out.ro 2 rfl)).mono ?_); rintro ee w6 ⟨v6, rfl, h0, hb⟩; obtain ⟨A4, c4, e4⟩ := PV.lenlit2 h0 18 e_len; subst e4; have hs := HS.out.push_ro hb h0; simp only [List.nil_append, List.cons_append] at hs; clear h0 hb xt0 xt1 xt2; clear HS; have HS := aM hs; clear hs)
  | (go_at_call 9; (refine (e3_calls _ _ HS.out.lt _ (HS.out.ro 4 rfl)).mono ?_); rintro ee w7 ⟨v0, v1, v2, rfl, h0, h1, h2, hb⟩; obtain ⟨A5, c5, e5⟩ := PV.lenlit2 h0 256 e_lc; subst e5; obtain ⟨A6, c6, e6⟩ := PV.lenlit2 h1 1 e_ln; subst e6; obtain ⟨A7, c7, e7⟩ := PV.lenlit2 h2 1 e_lt; subst e7; have hs := (((HS.out.push_ro hb h0).push_ro (Below.refl _ _) (h1.to (fun _ _ h => Ys_ro h))).push_ro (Below.refl _ _) (h2.to (fun _ _ h => Ys_ro (Ys_ro h)))).push_box [.slice A5 256 c5, .slice A6 1 c6, .slice A7 1 c7] 28; simp only [List.nil_append, List.cons_append] at hs; clear h0 h1 h2 hb; clear HS; have HS := aM hs; clear hs))
 go_upto_region 5 with (first
  | (go_at_call 9; (refine (e4_calls _).mono ?_); rintro ee w8 ⟨A8, c8, A9, c9, Aa, ca, rfl, hb⟩; have hs := (HS.out.call hb).push_box [.slice A8 0 c8, .slice A9 0 c9, .slice Aa 0 ca] 28; simp only [List.nil_append, List.cons_append] at hs; clear hb; clear HS; have HS := aM hs; clear hs))
 go_upto_region 6 with (first
  | (go_at_call 6; (refine (e5_calls _).mono ?_); rintro ee w9 ⟨v9, rfl, hb⟩; have hs := HS.out.call hb; clear hb; clear HS; have HS := aM hs; clear hs))
 go_wp2_with (first
  | (go_at_call 23; (with_reducible refine (e6_calls _).mono ?_); rintro ee wa ⟨rfl, rfl⟩; have kc3 := Lib.run_convert_bytes_const (P := Tryz.prog) wa 24 5 #[.int .u8 97] 1 1 Tryz.underlying24 Tryz.underlying5)
  | (go_at_call 23; have hs := HS.out.push_bytes .u8 [97] 5 (1, 2) (by decide); simp only [List.nil_append, List.cons_append] at hs; change Sep _ w (wa.alloc (.cells #[.int .u8 97] 5 (1, 2))) _ at hs; clear HS kc3; have HS := aM hs; clear hs; (refine (e7_calls _ _ _ (HS.out.ro 10 rfl)).mono ?_); rintro ee wb ⟨rfl, rfl⟩; have xt0 := (HS.out.box 3 rfl).cell 0 rfl; have xt1 := (HS.out.box 3 rfl).cell 1 rfl; have xt2 := (HS.out.box 3 rfl).cell 2 rfl; have xu0 := (HS.out.box 8 rfl).cell 0 rfl; have xu1 := (HS.out.box 8 rfl).cell 1 rfl; have xu2 := (HS.out.box 8 rfl).cell 2 rfl)
  | (go_at_call 10; (refine (e8_calls _ _ HS.out.lt _ _ _ _ _ _ (HS.out.ro 5 rfl) (HS.out.ro 6 rfl) (HS.out.ro 7 rfl) (HS.out.ro 0 rfl) (HS.out.ro 1 rfl) (HS.out.ro 2 rfl)).mono ?_); rintro e wc ⟨rfl, hb⟩; have hs := HS.out.call hb; clear hb xt0 xt1 xt2 xu0 xu1 xu2; obtain ⟨ad, ed, ya⟩ := e9_cell (hs.ro 4 rfl); subst ed; clear HS; have HS := aM hs; clear hs))
 go_ret
 exact ⟨rfl, HS.out.below⟩
theorem U8s.set {b : List Int} (h : U8s b) (i : Nat) {q : Int} (hq : 0 ≤ q ∧ q < 256) : U8s (b.set i q) := fun c hc => by
 rcases List.mem_or_eq_of_mem_set hc with hc | rfl
 ·exact h c hc
 ·exact hq
end Go.Proofs.YtplhfgobeicegaaGreatDoor.P
namespace Go.Proofs.YtplhfgobeicegaaGreatDoor.P
open Go Go.RowKit Go.Proofs.YtplhfgobeicegaaGreatDoorW.PrintWords Go.Proofs.YtplhfgobeicegaaGreatDoorW.PrintMore Go.Proofs.YtplhfgobeicegaaGreatDoor.PX
set_option linter.unusedVariables false
set_option linter.unusedSimpArgs false
def clsS (l : List Int) : Int := l.foldl (fun m x => mx m (x + 1)) 0
theorem clsS_snoc (l : List Int) (x : Int) : clsS (l ++ [x]) = mx (clsS l) (x + 1) := by unfold clsS; rw [List.foldl_append]; rfl
theorem clsGo (l : List Int) : ∀ m : Int, m ≤ l.foldl (fun m x => mx m (x + 1)) m ∧ (∀ x ∈ l, x + 1 ≤ l.foldl (fun m x => mx m (x + 1)) m) ∧ (l.foldl (fun m x => mx m (x + 1)) m = m ∨ ∃ x ∈ l, l.foldl (fun m x => mx m (x + 1)) m = x + 1) := by
 induction l with
 | nil => exact fun m => ⟨Int.le_refl _, fun x h => (by cases h), .inl rfl⟩
 | cons y t ih =>
  intro m
  rw [List.foldl_cons]
  obtain ⟨h1, h2, h3⟩ := ih (mx m (y + 1))
  have h4 : m ≤ mx m (y + 1) ∧ y + 1 ≤ mx m (y + 1) ∧ (mx m (y + 1) = m ∨ mx m (y + 1) = y + 1) := by unfold mx; split <;> omega
  generalize mx m (y + 1) = z at *
  generalize List.foldl (fun m x => mx m (x + 1)) z t = u at *
  refine ⟨by omega, fun x hx => ?_, ?_⟩
  ·rcases List.mem_cons.1 hx with rfl | hx
   ·omega
   ·exact h2 x hx
  ·rcases h3 with h3 | ⟨x, hx, h3⟩
   ·rcases h4.2.2 with h5 | h5
    ·exact .inl (by omega)
    ·exact .inr ⟨y, List.mem_cons_self, by omega⟩
   ·exact .inr ⟨x, List.mem_cons_of_mem _ hx, h3⟩
theorem clsS_in {l : List Int} (h : U8s l) : 0 ≤ clsS l ∧ clsS l ≤ 256 := by
 obtain ⟨h1, h2, h3⟩ := clsGo l 0
 unfold clsS
 rcases h3 with h3 | ⟨x, hx, h3⟩
 ·omega
 ·have := h x hx; omega
theorem clsS_max {l : List Int} (h : U8s l) (h0 : 1 ≤ l.length) : (clsS l).toNat = (maxF l).toNat + 1 := by
 obtain ⟨h1, h2, h3⟩ := clsGo l 0
 have h4 := maxF_in h h0
 have h5 := (maxF_le l (maxF l) h0).1 (Int.le_refl _)
 have h6 : clsS l = maxF l + 1 := by
  unfold clsS
  generalize hu : List.foldl (fun m x => mx m (x + 1)) 0 l = u at *
  have h7 : maxF l ≤ u - 1 := (maxF_le l (u - 1) h0).2 (fun x hx => by have := h2 x hx; omega)
  rcases h3 with h3 | ⟨x, hx, h3⟩
  ·have := h2 _ (mem_getD l 0 0 (by omega))
   have := h _ (mem_getD l 0 0 (by omega))
   omega
  ·have := h5 x hx; omega
 omega
def stS (b : List Int) (k : Nat) : Nat → List (List Int) → List Int → Nat → Bool → List (List Int) × List Int × Nat × Bool
 | 0, N, T, a, bad => (N, T, a, bad)
 | m + 1, N, T, a, bad => if bad = true then (N, T, a, bad) else
   stS b k m (N ++ [(rowS b k 2 k [] (numS b 2 0 a false).2.1 (numS b 2 0 a false).2.2).1.map (fun x => x - 1)]) (T ++ [(numS b 2 0 a false).1 - 1]) (rowS b k 2 k [] (numS b 2 0 a false).2.1 (numS b 2 0 a false).2.2).2.1 (rowS b k 2 k [] (numS b 2 0 a false).2.1 (numS b 2 0 a false).2.2).2.2
def endS (b cl : List Int) (s : List (List Int) × List Int × Nat × Bool) : (List Int × List (List Int) × List Int) × Int :=
 if s.2.2.2 = false ∧ (encR cl s.1 s.2.1).2 = 0 ∧ (encR cl s.1 s.2.1).1 = b then ((cl, s.1, s.2.1), 0) else noTable
def midS (b : List Int) (many : Nat) (c : List Int × Nat × Bool) : (List Int × List (List Int) × List Int) × Int :=
 endS b c.1 (stS b (clsS c.1).toNat many [] [] c.2.1 c.2.2)
def decS (b : List Int) : (List Int × List (List Int) × List Int) × Int :=
 if (numS b 3 0 0 false).1 = 4670209 then midS b (numS b 2 0 (numS b 3 0 0 false).2.1 (numS b 3 0 0 false).2.2).1.toNat (rowS b 256 1 256 [] (numS b 2 0 (numS b 3 0 0 false).2.1 (numS b 3 0 0 false).2.2).2.1 (numS b 2 0 (numS b 3 0 0 false).2.1 (numS b 3 0 0 false).2.2).2.2) else noTable
theorem drop_cons {b : List Int} {a : Nat} {x : Int} {r : List Int} (h : b.drop a = x :: r) : a < b.length ∧ b.getD a 0 = x ∧ b.drop (a + 1) = r := by
 have hl : a < b.length := by
  rcases Nat.lt_or_ge a b.length with h1 | h1
  ·exact h1
  ·rw [List.drop_eq_nil_of_le h1] at h; cases h
 rw [drop_at b 0 a hl] at h
 injection h with h3 h4
 exact ⟨hl, h3, h4⟩
theorem num_one {b : List Int} {a : Nat} {x : Int} {r : List Int} (h : b.drop a = x :: r) (bad : Bool) : numS b 1 0 a bad = (x, a + 1, bad) := by
 obtain ⟨h1, h2, h3⟩ := drop_cons h
 rw [numS, if_pos h1, numS, h2]
 simp
theorem num_two {b : List Int} {a : Nat} {x : Int} {r : List Int} (h : b.drop a = two15 x ++ r) (hx : 0 ≤ x ∧ x < 65536) (bad : Bool) : numS b 2 0 a bad = (x, a + 2, bad) ∧ b.drop (a + 2) = r := by
 have h' : b.drop a = (x / 256 % 256) :: (x % 256 :: r) := h
 obtain ⟨h1, h2, h3⟩ := drop_cons h'
 obtain ⟨h4, h5, h6⟩ := drop_cons h3
 refine ⟨?_, h6⟩
 rw [numS, if_pos h1, numS, if_pos h4, numS, h2, h5]
 refine Prod.ext ?_ rfl
 show 256 * (256 * 0 + x / 256 % 256) + x % 256 = x
 omega
theorem rowS_runs (b : List Int) (size : Nat) (lay : Int → List Int) (V : Int → Int) (good : Int → Prop) (hr : ∀ x, good x → ∀ (a : Nat) rest, b.drop a = lay x ++ rest → ∃ a', numS b size 0 a false = (V x, a', false) ∧ b.drop a' = rest) (many : Nat) (rest : List Int) :
  ∀ (f g : Nat) (l t : List Int) (a : Nat), l.length + t.length = many → t.length ≤ f → t.length ≤ g → (∀ x ∈ t, good x) → b.drop a = runsF lay g t ++ rest → ∃ a', rowS b many size f l a false = (l ++ t.map V, a', false) ∧ b.drop a' = rest
 | 0, g, l, t, a, hm, hf, hg, ht, hb => by
  obtain rfl : t = [] := List.eq_nil_of_length_eq_zero (by omega)
  rw [runsF_nil] at hb
  exact ⟨a, by rw [rowS]; simp, hb⟩
 | f + 1, g, l, [], a, hm, hf, hg, ht, hb => by
  rw [runsF_nil] at hb
  exact ⟨a, by rw [rowS, if_neg (by rintro ⟨h, _⟩; rw [List.length_nil] at hm; omega)]; simp, hb⟩
 | f + 1, 0, l, x :: t, a, hm, hf, hg, ht, hb => by rw [List.length_cons] at hg; omega
 | f + 1, g + 1, l, x :: t, a, hm, hf, hg, ht, hb => by
  rw [List.length_cons] at hm hf hg
  have hl := (lead_le x 254 t).2
  have ht2 := lead_take x 254 t
  rw [runsF, List.cons_append, List.append_assoc] at hb
  have ih := fun l2 a2 h => rowS_runs b size lay V good hr many rest f g l2 (t.drop (lead x 254 t)) a2 h (by rw [List.length_drop]; omega) (by rw [List.length_drop]; omega) (fun y hy => ht y (List.mem_cons_of_mem _ (List.mem_of_mem_drop hy)))
  generalize lead x 254 t = n at *
  have h1 := num_one hb false
  obtain ⟨a2, h2, h3⟩ := hr x (ht x List.mem_cons_self) (a + 1) _ (drop_cons hb).2.2
  obtain ⟨a3, h4, h5⟩ := ih (l ++ List.replicate (n + 1) (V x)) a2 (by rw [lA, List.length_replicate, List.length_drop]; omega) h3
  refine ⟨a3, ?_, h5⟩
  rw [rowS, if_pos ⟨by omega, rfl⟩, h1]
  dsimp only
  rw [h2]
  dsimp only
  rw [if_neg (by rintro (h | h | h); cases h; omega; omega), Int.toNat_natCast, h4, List.append_assoc]
  refine Prod.ext ?_ rfl
  show l ++ (List.replicate (n + 1) (V x) ++ (t.drop n).map V) = l ++ (x :: t).map V
  rw [List.replicate_succ, List.cons_append, List.map_cons, ← List.map_replicate, ← ht2, ← List.map_append, List.take_append_drop]
theorem stS_rows (b : List Int) (k : Nat) (rest : List Int) : ∀ (N : List (List Int)) (T : List Int) (N0 : List (List Int)) (T0 : List Int) (a : Nat), N.length = T.length → (∀ row ∈ N, row.length = k ∧ ∀ x ∈ row, -1 ≤ x ∧ x < 65535) → (∀ x ∈ T, -1 ≤ x ∧ x < 65535) → b.drop a = rowsE N T ++ rest →
  ∃ a', stS b k T.length N0 T0 a false = (N0 ++ N, T0 ++ T, a', false)
 | [], [], N0, T0, a, _, _, _, _ => ⟨a, by simp [stS]⟩
 | [], _ :: _, N0, T0, a, h, _, _, _ => by cases h
 | _ :: _, [], N0, T0, a, h, _, _, _ => by cases h
 | row :: N, x :: T, N0, T0, a, h, hN, hT, hb => by
  rw [rowsE, show (x :: T).getD 0 0 = x from rfl, show (x :: T).drop 1 = T from rfl, List.append_assoc, List.append_assoc] at hb
  have hx := hT x List.mem_cons_self
  obtain ⟨h1, h2⟩ := num_two hb (by omega) false
  have hrow := hN row List.mem_cons_self
  obtain ⟨a2, h3, h4⟩ := rowS_runs b 2 (fun x => two15 (x + 1)) (fun x => x + 1) (fun x => -1 ≤ x ∧ x < 65535) (fun y hy a rest hd => ⟨a + 2, num_two hd (by omega) false⟩) k (rowsE N T ++ rest) k row.length [] row (a + 2) (by simp [hrow.1]) (by omega) (Nat.le_refl _) hrow.2 h2
  obtain ⟨a3, h5⟩ := stS_rows b k rest N T (N0 ++ [row]) (T0 ++ [x]) a2 (by rw [List.length_cons, List.length_cons] at h; omega) (fun r hr => hN r (List.mem_cons_of_mem _ hr)) (fun y hy => hT y (List.mem_cons_of_mem _ hy)) h4
  refine ⟨a3, ?_⟩
  have hmm : (row.map (fun x => x + 1)).map (fun x => x - 1) = row := by
   rw [List.map_map]
   conv => rhs; rw [← List.map_id row]
   exact List.map_congr_left (fun y _ => by show y + 1 - 1 = y; omega)
  rw [List.length_cons, stS, if_neg (by decide), h1]
  dsimp only
  rw [h3]
  dsimp only
  rw [List.nil_append, hmm, show x + 1 - 1 = x by omega, h5]
  simp
theorem decS_enc {C : List Int} {N : List (List Int)} {T : List Int} (hu : U8s C) (h : EncOk C N T) (b : List Int) (hb : b = sealE (bodyE C N T)) : decS b = ((C, N, T), 0) := by
 have hf := enc_fact hu h
 obtain ⟨s, hs, e1⟩ := sealE_app (bodyE C N T)
 have hd : b.drop 0 = 71 :: 67 :: 1 :: (two15 (T.length : Int) ++ (runsF (fun x => [x]) C.length C ++ (rowsE N T ++ s))) := by
  rw [List.drop_zero, hb, e1, bodyE_head]; rfl
 obtain ⟨a1, a2, a3⟩ := drop_cons hd
 obtain ⟨a4, a5, a6⟩ := drop_cons a3
 obtain ⟨a7, a8, a9⟩ := drop_cons a6
 have n3 : numS b 3 0 0 false = (4670209, 3, false) := by
  rw [numS, if_pos a1, numS, if_pos a4, numS, if_pos a7, numS, a2, a5, a8]
  rfl
 have hle := hf.le
 obtain ⟨n2, d2⟩ := num_two a9 (by omega) false
 obtain ⟨a10, r1, d3⟩ := rowS_runs b 1 (fun x => [x]) (fun x => x) (fun _ => True) (fun x _ a rest hd => ⟨a + 1, num_one hd false, (drop_cons hd).2.2⟩) 256 (rowsE N T ++ s) 256 C.length [] C _ (by simp [hf.len]) (by rw [hf.len]; exact Nat.le_refl _) (Nat.le_refl _) (fun _ _ => trivial) d2
 obtain ⟨a11, r2⟩ := stS_rows b ((maxF C).toNat + 1) s N T [] [] a10 hf.rows hf.row hf.tag d3
 unfold decS
 rw [n3]
 dsimp only
 rw [if_pos rfl, n2]
 dsimp only
 rw [r1]
 unfold midS
 dsimp only
 rw [List.nil_append, List.map_id', clsS_max hu (by rw [hf.len]; decide), Int.toNat_natCast, r2]
 unfold endS
 rw [List.nil_append, List.nil_append, encR_pos h, if_pos ⟨rfl, rfl, hb.symm⟩]
theorem rowS_good {b : List Int} (G : Int → Prop) (size : Nat) (hg : ∀ a bad, G (numS b size 0 a bad).1) (many : Nat) : ∀ (f : Nat) (l : List Int) (a : Nat) (bad : Bool), l.length ≤ many → (∀ x ∈ l, G x) → (∀ x ∈ (rowS b many size f l a bad).1, G x) ∧ (rowS b many size f l a bad).1.length ≤ many
 | 0, l, a, bad, hm, h => ⟨h, hm⟩
 | f + 1, l, a, bad, hm, h => by
  rw [rowS]
  split
  ·split
   ·exact ⟨h, hm⟩
   ·next h1 h2 =>
    refine rowS_good G size hg many f _ _ _ ?_ (fun x hx => ?_)
    ·rw [lA, List.length_replicate]; omega
    ·rcases List.mem_append.1 hx with hx | hx
     ·exact h x hx
     ·rw [List.eq_of_mem_replicate hx]; exact hg _ _
  ·exact ⟨h, hm⟩
theorem row1_u8 {b : List Int} (hu : U8s b) (many f a : Nat) (bad : Bool) : U8s (rowS b many 1 f [] a bad).1 ∧ (rowS b many 1 f [] a bad).1.length ≤ many :=
 rowS_good (fun x => 0 ≤ x ∧ x < 256) 1 (fun a bad => num1_in b hu a bad) many f [] a bad (Nat.zero_le _) (fun x h => by cases h)
theorem endS_cases (b cl : List Int) (s : List (List Int) × List Int × Nat × Bool) : endS b cl s = noTable ∨ (endS b cl s = ((cl, s.1, s.2.1), 0) ∧ encR cl s.1 s.2.1 = (b, 0)) := by
 unfold endS
 split
 ·next h => exact .inr ⟨rfl, Prod.ext h.2.2 h.2.1⟩
 ·exact .inl rfl
theorem decS_eq {b : List Int} (hu : U8s b) : decS b = decF b := by
 by_cases h : (decF b).2 = 0
 ·obtain ⟨C, N, T, e, hc, hok, hb⟩ := dec_form hu h
  rw [e]
  exact decS_enc hc hok b hb
 ·rw [decF_not h]
  unfold decS
  split
  ·unfold midS
   generalize numS b 2 0 (numS b 3 0 0 false).2.1 (numS b 3 0 0 false).2.2 = q
   have h1 := (row1_u8 hu 256 256 q.2.1 q.2.2).1
   generalize rowS b 256 1 256 [] q.2.1 q.2.2 = c at *
   generalize stS b (clsS c.1).toNat q.1.toNat [] [] c.2.1 c.2.2 = s
   rcases endS_cases b c.1 s with h2 | ⟨h2, h3⟩
   ·exact h2
   ·have h4 := encR_inv (C := c.1) (N := s.1) (T := s.2.1) (by rw [h3])
    rw [encR_pos h4] at h3
    injection h3 with h3 _
    exact absurd (by rw [dec_iff hu h1 h4 h3.symm]) h
  ·rfl
end Go.Proofs.YtplhfgobeicegaaGreatDoor.P
