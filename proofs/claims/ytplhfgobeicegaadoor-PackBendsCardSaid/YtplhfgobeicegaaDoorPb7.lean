/- Part 7 of the proof: S11, S13k, S13l, S13m. -/
import Derived.Test.YtplhfgobeicegaaDoorPb6
namespace Go.Proofs.YtplhfgobeicegaaDoor.P
open Go Go.RowKit Go.Proofs.YtplhfgobeicegaaDoorW.PrintWords Go.Proofs.YtplhfgobeicegaaDoorW.PrintLast Go.Proofs.YtplhfgobeicegaaDoorW.PrintMore Go.Proofs.YtplhfgobeicegaaDoor.PX
attribute [local go_sem] max2_int min2_int max_two min_two
set_option linter.unusedVariables false
set_option linter.unusedSimpArgs false
set_option maxRecDepth 100000
abbrev kRow : Kd (List Int) := Kd.slice 3 kInt
abbrev kU16s : Kd (List Int) := Kd.slice 23 (Kd.int .u16)
structure DfaS where
 parts : List (List Sp)
 next : List (List Int)
 tags : List Int
def lists11 (c : List (List Int)) : List (List Sp) := ((c.take 4).filter (fun x => decide (x.length < 8))).map spansL
def cell11 (next : List Int) (many : Int) (at_ : Nat) : Int := if 0 < next.length then mx ((next.getD (at_ % next.length) 0).tmod many) (-1) else 0
def row11 (next : List Int) (many : Int) (P i : Nat) : List Int := (List.range P).map (fun j => cell11 next many (i * P + j))
def tag11 (tags : List Int) (i : Nat) : Int := if i < tags.length then mx ((tags.getD i 0).tmod 4) (-1) else -1
def dfa11 (c : List (List Int)) (k : Int) (next tags : List Int) : DfaS :=
 ⟨of10 (lists11 c), (List.range (1 + k % 9).toNat).map (row11 next (1 + k % 9) (of10 (lists11 c)).length), (List.range (1 + k % 9).toNat).map (tag11 tags)⟩
theorem spans_len (l : List Int) : (spansL l).length ≤ 30 := by
 unfold spansL manyC
 rw [List.length_map, List.length_range]
 split <;> omega
theorem spans_sm (l : List Int) (h : ∀ x ∈ l, 0 ≤ x ∧ x < 65536) : Sm (spansL l) := by
 intro s hs
 unfold spansL at hs
 obtain ⟨j, hj, rfl⟩ := List.mem_map.1 hs
 have hj1 : j < manyC l := List.mem_range.1 hj
 have hj2 : 2 * j + 1 < l.length := by unfold manyC at hj1; split at hj1 <;> omega
 have p := place_in _ (h _ (mem_getD l 0 (2 * j) (by omega))).1
 have q := h _ (mem_getD l 0 (2 * j + 1) (by omega))
 unfold choice
 dsimp only
 omega
def l11 (c : List (List Int)) (i : Nat) : List (List Sp) := ((c.take i).filter (fun x => decide (x.length < 8))).map spansL
theorem l11_step (c : List (List Int)) (i : Nat) (h : i < c.length) : l11 c (i + 1) = if (c.getD i []).length < 8 then l11 c i ++ [spansL (c.getD i [])] else l11 c i := by
 unfold l11
 rw [take_at c [] i h, List.filter_append, List.map_append]
 split
 ·rename_i q
  rw [List.filter_cons_of_pos (by simpa using q)]
  rfl
 ·rename_i q
  rw [List.filter_cons_of_neg (by simpa using q)]
  simp
theorem l11_len (c : List (List Int)) (i : Nat) : (l11 c i).length ≤ i := by
 unfold l11
 rw [List.length_map]
 exact Nat.le_trans (List.length_filter_le _ _) (by rw [List.length_take]; omega)
theorem l11_mem (c : List (List Int)) (i : Nat) (hc : ∀ l ∈ c, ∀ x ∈ l, 0 ≤ x ∧ x < 65536) : ∀ x ∈ l11 c i, Sm x ∧ x.length ≤ 30 := by
 intro x hx
 unfold l11 at hx
 obtain ⟨y, hy, rfl⟩ := List.mem_map.1 hx
 exact ⟨spans_sm y (hc y (List.mem_of_mem_take (List.mem_filter.1 hy).1)), spans_len y⟩
theorem l11_all (c : List (List Int)) (i : Nat) (h : i = 4 ∨ (i ≤ 4 ∧ c.length ≤ i)) : l11 c i = lists11 c := by
 unfold l11 lists11
 rcases h with rfl | ⟨h, h2⟩
 ·rfl
 ·rw [List.take_of_length_le h2, List.take_of_length_le (by omega)]
set_option maxHeartbeats 4000000 in
theorem dfa11_calls (X : Nat → Prop) (v0 v2 v3 : Value) (c : List (List Int)) (k : Int) (next tags : List Int) (w : World) (hX : ∀ k, X k → k < w.heap.size) (h0 : PV kU16s X w v0 c) (h2 : PV (Kd.int .i8) X w v2 next) (h3 : PV (Kd.int .i8) X w v3 tags)
  (hc : ∀ l ∈ c, ∀ x ∈ l, 0 ≤ x ∧ x < 65536) (hk : 0 ≤ k ∧ k < 256) (hn : ∀ x ∈ next, -128 ≤ x ∧ x ≤ 127) (ht : ∀ x ∈ tags, -128 ≤ x ∧ x ≤ 127) :
  Calls Tryd.prog 39 #[v0, .int .u8 k, v2, v3] w fun e w' => ∃ vp vn vt, e = .returned (.agg #[vp, vn, vt]) ∧ PV kSps X w' vp (dfa11 c k next tags).parts ∧ PV kRow X w' vn (dfa11 c k next tags).next ∧ PV kInt X w' vt (dfa11 c k next tags).tags ∧ Below w.heap.size w w' := by
 have H0 := Aside0.mk h0
 have H2 := Aside0.mk h2
 have H3 := Aside0.mk h3
 have HX := Aside0.mk hX
 have HC := Aside0.mk hc
 have HRN := Aside0.mk hn
 have HRT := Aside0.mk ht
 obtain ⟨A0, c0, rfl, _, _⟩ := h0.now
 obtain ⟨A2, c2, rfl, _, _⟩ := h2.now
 obtain ⟨A3, c3, rfl, _, _⟩ := h3.now
 have m0 := h0.max
 have m2 := h2.max
 have m3 := h3.max
 clear h0 h2 h3 hX hc hn ht
 obtain ⟨res, hres⟩ : ∃ r, r = dfa11 c k next tags := ⟨_, rfl⟩
 rw [← hres]
 obtain ⟨parts, hparts⟩ : ∃ p, p = of10 (lists11 c) := ⟨_, rfl⟩
 have HPA := Aside0.mk hparts
 have HRES := Aside0.mk (show res = ⟨parts, (List.range (1 + k % 9).toNat).map (row11 next (1 + k % 9) parts.length), (List.range (1 + k % 9).toNat).map (tag11 tags)⟩ by rw [hres, hparts]; rfl)
 clear hres hparts
 go_enter Tryd.func39, Tryd.ntmps39
 go_wp2_with fail
 obtain ⟨w1, hw1⟩ : ∃ w1, w1 = w.alloc (.cells #[.slice none 0 0, .slice none 0 0, .slice none 0 0] 77) := ⟨_, rfl⟩
 rw [← hw1]
 have HB1 := Aside0.mk (show Below w.heap.size w w1 by rw [hw1]; exact below_alloc (Below.refl _ _) _)
 have HG8 := Aside0.mk (show Box w1 w.heap.size 77 [.slice none 0 0, .slice none 0 0, .slice none 0 0] by rw [hw1]; exact Box.alloc w _ _)
 have HX1 := Aside0.mk (show ∀ k, Xb X w.heap.size k → k < w1.heap.size from fun k hk => hk.elim (fun h => Nat.lt_of_lt_of_le (HX.out k h) HB1.out.size) (fun e => by rw [e]; exact HG8.out.lt))
 have HV0 := Aside0.mk (H0.out.new HB1.out (Nat.le_refl _))
 have HV2 := Aside0.mk (H2.out.new HB1.out (Nat.le_refl _))
 have HV3 := Aside0.mk (H3.out.new HB1.out (Nat.le_refl _))
 have HXE := Aside0.mk (show ∀ k, X k → Xb X w.heap.size k from fun k h => .inl h)
 have HXG8 := Aside0.mk (show Xb X w.heap.size w.heap.size from .inr rfl)
 clear hw1 H0 H2 H3
 generalize hg8 : w.heap.size = g8 at *
 have HG0 := Aside0.mk hg8
 clear hg8
 generalize Xb X g8 = Xa at *
 obtain ⟨n1, hn1⟩ : ∃ n1, n1 = if c.length ≤ 4 then c.length else 4 := ⟨_, rfl⟩
 have HN1 := Aside0.mk (show n1 ≤ 4 ∧ n1 ≤ c.length ∧ (n1 = 4 ∨ c.length ≤ n1) by rw [hn1]; split <;> omega)
 clear hn1
 go_loopg [9, 10] n1 (fun m v9 v10 w' => ∃ (i : Nat) (out : List (List Sp)), v10 = .int .i64 i ∧ Aside0 (i + m = n1) ∧ Aside0 (out = l11 c i) ∧ Aside0 (Own kSps 85 (Xp Xa v9) w' w1.heap.size v9 out) ∧ Aside0 (Below w1.heap.size w1 w'))
 case atStart => exact ⟨0, [], rfl, ⟨by omega⟩, ⟨by unfold l11; rfl⟩, ⟨Own.nil _ _ _ _ _⟩, ⟨Below.refl _ _⟩⟩
 case round =>
  obtain ⟨i, out, rfl, HJ, HO, HW, HB⟩ := hrel
  obtain ⟨A9, c9, e9, _, _⟩ := HW.out.now
  subst e9
  cases gk with
  | succ k1 =>
   have hi4 : i < 4 := by have := HJ.out; have := HN1.out; omega
   have hic : i < c.length := by have := HJ.out; have := HN1.out; omega
   have d1 : decide ((i : Int) < (c.length : Int)) = true := decide_eq_true (by omega)
   have d2 : decide ((i : Int) < 4) = true := decide_eq_true (by omega)
   have d3 : decide (i < 4) = true := decide_eq_true hi4
   have d4 : decide (i < c.length) = true := decide_eq_true hic
   have hi0 : (0 : Int) ≤ (i : Int) := by omega
   have hi1 : (i : Int) < (c.length : Int) := by omega
   obtain ⟨ax, cx, ux, ex, hux, hcx⟩ := (HV0.out.under HB.out HW.out.base).row i hic
   cases ex
   have HST := Aside0.mk (l11_step c i hic)
   have HXC := Aside0.mk (HC.out _ (mem_getD c [] i hic))
   generalize c.getD i [] = x at *
   obtain ⟨Ax, cx2, rfl, _, _⟩ := hux.now
   have HU := Aside0.mk hux
   have HXU := Aside0.mk (HW.out.under (fun k hk => Nat.lt_of_lt_of_le (HX1.out k hk) HB.out.size))
   have HOL := Aside0.mk (show out.length ≤ i by rw [HO.out]; exact l11_len c i)
   clear hux
   by_cases q : x.length < 8
   ·have d5 : decide ((x.length : Int) < 8) = true := decide_eq_true (by omega)
    have d6 : decide (x.length < 8) = true := decide_eq_true q
    have HO2 := Aside0.mk (show out ++ [spansL x] = l11 c (i + 1) by rw [HST.out, if_pos q, HO.out])
    clear HO HST
    go_wp2_with (first
     | (go_at_call 47; (with_reducible refine (spans_calls _ _ x _ HXU.out HU.out HXC.out).mono ?_); rintro ee w5 ⟨v5, rfl, hv, hb⟩; have H5 := Aside0.mk hv; have HB5 := Aside0.mk (below_step HB.out hb); have HW5 := Aside0.mk (HW.out.below hb); clear hv hb; obtain ⟨A5, c5, e5, _, _⟩ := H5.out.now; subst e5)
     | ((with_reducible refine gate_dst (N := 41) rfl ?_); refine lit kSps 85 (X := _) ?hg (N := 41) ?hd (xs := [spansL x]) (inner := [.slice A5 (spansL x).length c5]) ?hr ?hp (fun k hk => Nat.lt_of_lt_of_le (HW5.out.under (fun k hk => Nat.lt_of_lt_of_le (HX1.out k hk) HB5.out.size) k hk) (Nat.le_refl _)) (by simp) HB5.out HB5.out.size ?_; (case hd => rfl); (case hg => rfl); (case hr => first | (go_simp; done) | (go_simp; rfl)); (case hp => exact Reps.one (PK.slice H5.out) (Reps.none _ _)); intro v7 w7 hv hb3 hb; have H7 := Aside0.mk hv; have HW7 := Aside0.mk (HW5.out.below hb3); have HB7 := Aside0.mk hb; clear hv hb3 hb; obtain ⟨A_v7, c_v7, e_v7, _⟩ := H7.out.now; subst e_v7)
     | ((with_reducible refine gate_builtin (b := .append) (xs := #[.tmp 35, .tmp 41]) rfl ?_); at_builtin; refine grow kSps w1.heap.size rfl (.tmp 35) (.tmp 41) 75 85 (.slice none 0 0) 24 rfl Tryd.underlying75 info85 rfl (by decide) (by omega) _ _ out [spansL x] rfl rfl HW7.out H7.out HB7.out.size (by have := HOL.out; simp; omega) HB7.out ?_; intro v8 w8 ho hat hg hb; have HW8 := Aside0.mk ho; have HB8 := Aside0.mk hb; clear ho hat hg hb))
    go_roundg k1
    case measure => omega
    case rel => exact ⟨i + 1, _, by go_num, ⟨by have := HJ.out; omega⟩, HO2, HW8, HB8⟩
   ·have d5 : decide ((x.length : Int) < 8) = false := decide_eq_false (by omega)
    have d6 : decide (x.length < 8) = false := decide_eq_false q
    have HO2 := Aside0.mk (show out = l11 c (i + 1) by rw [HST.out, if_neg q, HO.out])
    clear HO HST
    go_wp2_with fail
    go_roundg k1
    case measure => omega
    case rel => exact ⟨i + 1, _, by go_num, ⟨by have := HJ.out; omega⟩, HO2, HW, HB⟩
  | zero =>
   have HF := Aside0.mk (show out = lists11 c by rw [HO.out]; exact l11_all c i (by have := HJ.out; have := HN1.out; omega))
   have hcs : c.length ≤ i ∨ (i < c.length ∧ i = 4) := by have := HJ.out; have := HN1.out; omega
   have hi4 : i ≤ 4 := by have := HJ.out; have := HN1.out; omega
   have HPV := Aside0.mk (HW.out.done HX1.out)
   have HOL := Aside0.mk (show out.length ≤ 4 by rw [HO.out]; exact Nat.le_trans (l11_len c i) hi4)
   have HOM := Aside0.mk (show ∀ x ∈ out, Sm x ∧ x.length ≤ 30 by rw [HO.out]; exact l11_mem c i HC.out)
   have HPA2 := Aside0.mk (show parts = of10 out by rw [HPA.out, HF.out])
   clear HPA HF
   rcases hcs with h | ⟨h, h2⟩
   case' inl =>
    have d1 : decide ((i : Int) < (c.length : Int)) = false := decide_eq_false (by omega)
    have d4 : decide (i < c.length) = false := decide_eq_false (by omega)
   case' inr =>
    have d1 : decide ((i : Int) < (c.length : Int)) = true := decide_eq_true (by omega)
    have d2 : decide ((i : Int) < 4) = false := decide_eq_false (by omega)
    have d3 : decide (i < 4) = false := decide_eq_false (by omega)
    have d4 : decide (i < c.length) = true := decide_eq_true h
   all_goals
    go_wp2_with (first
     | (go_at_call 48; (with_reducible refine (of10_calls Xa _ out _ (fun k hk => Nat.lt_of_lt_of_le (HX1.out k hk) HB.out.size) HPV.out HOL.out HOM.out).mono ?_); rintro ee w5 ⟨v5, rfl, hv, hb⟩; have H5 := Aside0.mk hv; have HB5 := Aside0.mk (below_step HB.out hb); clear hv hb; obtain ⟨A5, c5, e5, _, _⟩ := H5.out.now; subst e5))
    obtain ⟨w6, hw6⟩ : ∃ w6, w6 = w5.alloc (.cells #[.slice A5 (of10 out).length c5, .slice none 0 0, .slice none 0 0] 77) := ⟨_, rfl⟩
    rw [← hw6]
    have HG11 := Aside0.mk (show Box w6 w5.heap.size 77 [.slice A5 (of10 out).length c5, .slice none 0 0, .slice none 0 0] by rw [hw6]; exact Box.alloc w5 _ _)
    have hb6 : Below w5.heap.size w5 w6 := by rw [hw6]; exact below_alloc (Below.refl _ _) _
    have HB6 := Aside0.mk hb6
    have HP6 := Aside0.mk (H5.out.new hb6 (Nat.le_refl _))
    have HV26 := Aside0.mk ((HV2.out.below HB5.out).new hb6 (Nat.le_refl _))
    have HV36 := Aside0.mk ((HV3.out.below HB5.out).new hb6 (Nat.le_refl _))
    have hpo := HPA2.out
    rw [← hpo] at HG11 HP6 ⊢
    have HX5 := Aside0.mk (show ∀ k, Xa k → k < w5.heap.size from fun k hk => Nat.lt_of_lt_of_le (HX1.out k hk) HB5.out.size)
    have HX6 := Aside0.mk (show ∀ (W : World) (vals : List Value), Below w5.heap.size w5 W → Box W w5.heap.size 77 vals → ∀ k, Xb Xa w5.heap.size k → k < W.heap.size from fun W vals hb hg k hk => hk.elim (fun h => Nat.lt_of_lt_of_le (HX5.out k h) hb.size) (fun e => by rw [e]; exact hg.lt))
    have HXG := Aside0.mk (show Xb Xa w5.heap.size w5.heap.size from .inr rfl)
    have HXE6 := Aside0.mk (show ∀ k, Xa k → Xb Xa w5.heap.size k from fun k h => .inl h)
    have HPO := Aside0.mk hpo
    clear hw6 hb6 hpo HPA2 HOM HPV H5 HW HV0 HV2 HV3 h d1 d4 HN1 HO HJ
    generalize Xb Xa w5.heap.size = Xc at *
    obtain ⟨M, hM⟩ : ∃ M : Nat, M = (1 + k % 9).toNat := ⟨_, rfl⟩
    have hM2 : 1 + k % 9 = (M : Int) := by omega
    have hM3 : 1 ≤ M ∧ M ≤ 9 := by omega
    rw [hM2] at HRES ⊢
    rw [Int.toNat_natCast] at HRES
    have HMM := Aside0.mk hM3
    clear hM hM2 hM3
    obtain ⟨P, hP⟩ : ∃ P, P = parts.length := ⟨_, rfl⟩
    have HPP := Aside0.mk hP
    rw [← hP] at HRES HG11 ⊢
    clear hP
    have HPM := Aside0.mk (show P ≤ 15 by rw [HPP.out, HPO.out]; exact of10_len out HOL.out)
    clear HPO HOL
    go_loopg [13, 14] M (fun m v13 v14 w' => ∃ (i : Nat) (vN vT : Value) (nx : List (List Int)) (tg : List Int), (v14 = .int .i64 i ∧ v13 = .int .i64 ((i * P : Nat) : Int)) ∧ Aside0 (i + m = M) ∧ Aside0 (Box w' w5.heap.size 77 [.slice A5 P c5, vN, vT]) ∧ Aside0 (nx = (List.range i).map (row11 next M P) ∧ tg = (List.range i).map (tag11 tags)) ∧
     Aside0 (Own kRow 34 (Xp (Xp Xc vT) vN) w' w5.heap.size vN nx) ∧ Aside0 (Own kInt 3 (Xp (Xp Xc vT) vN) w' w5.heap.size vT tg) ∧ Aside0 (PV kSps (Xp (Xp Xc vT) vN) w' (.slice A5 parts.length c5) parts) ∧ Aside0 (PV (Kd.int .i8) (Xp (Xp Xc vT) vN) w' (.slice A2 next.length c2) next) ∧ Aside0 (PV (Kd.int .i8) (Xp (Xp Xc vT) vN) w' (.slice A3 tags.length c3) tags) ∧ Aside0 (Below w5.heap.size w5 w'))
    case atStart => exact ⟨0, .slice none 0 0, .slice none 0 0, [], [], ⟨rfl, by simp⟩, ⟨by omega⟩, HG11, ⟨rfl, rfl⟩, ⟨Own.nil _ _ _ _ _⟩, ⟨Own.nil _ _ _ _ _⟩, ⟨(HP6.out.to Xp_nil).to Xp_nil⟩, ⟨(HV26.out.to Xp_nil).to Xp_nil⟩, ⟨(HV36.out.to Xp_nil).to Xp_nil⟩, HB6⟩
    case round =>
     clear HG11 HP6 HV26 HV36
     obtain ⟨i, vN, vT, nx, tg, ⟨rfl, rfl⟩, HJ, HG, HE, HN, HT, HP, HV2, HV3, HB⟩ := hrel
     cases gk with
     | zero =>
      have d1 : decide ((i : Int) < (M : Int)) = false := decide_eq_false (by have := HJ.out; omega)
      have d2 : decide (i < M) = false := decide_eq_false (by have := HJ.out; omega)
      have q0 : (M : Int) ≤ (i : Int) := by have := HJ.out; omega
      obtain ⟨AN, cN, eN, _, _⟩ := HN.out.now
      subst eN
      obtain ⟨AT, cT, eT, _, _⟩ := HT.out.now
      subst eT
      have y0 := HG.out.cell 0 rfl
      have y1 := HG.out.cell 1 rfl
      have y2 := HG.out.cell 2 rfl
      have HG8w := Aside0.mk ((HG8.out.below HB5.out (HG8.out.lt)).step HB.out)
      have z0 := HG8w.out.cell 0 rfl
      have z1 := HG8w.out.cell 1 rfl
      have z2 := HG8w.out.cell 2 rfl
      have f0 := HG8w.out.open_ 0
      have f1 := HG8w.out.open_ 1
      have f2 := HG8w.out.open_ 2
      go_wp2_with fail
      have HBF := Aside0.mk (show Box (((wr.setCell ⟨g8, 0, none⟩ (.slice A5 P c5)).setCell ⟨g8, 1, none⟩ (.slice AN nx.length cN)).setCell ⟨g8, 2, none⟩ (.slice AT tg.length cT)) g8 77 [.slice A5 P c5, .slice AN nx.length cN, .slice AT tg.length cT] from ((HG8w.out.set 0 _).set 1 _).set 2 _)
      refine bodyPost_ret (results_cell_row rfl _ _ g8 77 #[.slice A5 P c5, .slice AN nx.length cN, .slice AT tg.length cT] (0, 0) _ rfl HBF.out Tryd.underlying77 rfl (by kernel_rfl)) rfl ?_
      have hXX : ∀ k, X k → Xp (Xp Xc (.slice AT tg.length cT)) (.slice AN nx.length cN) k := fun k hk => .inl (.inl (HXE6.out k (HXE.out k hk)))
      have hg : Xp (Xp Xc (.slice AT tg.length cT)) (.slice AN nx.length cN) g8 := .inl (.inl (HXE6.out _ HXG8.out))
      have hg5 : g8 < w5.heap.size := Nat.lt_of_lt_of_le HG8.out.lt HB5.out.size
      have hXl : ∀ k, X k → k < w5.heap.size := fun k hk => HX5.out k (HXE.out k hk)
      refine ⟨_, _, _, rfl, ?_, ?_, ?_, ?_⟩
      ·rw [HRES.out, HPP.out]
       exact (((HP.out.box hg 0 _).box hg 1 _).box hg 2 _).to (fun k _ hk => hXX k hk)
      ·have e : (List.range M).map (row11 next M P) = nx := by rw [HE.out.1, show i = M by have := HJ.out; omega]
       rw [HRES.out]
       show PV kRow X _ _ ((List.range M).map (row11 next M P))
       rw [e]
       have hne : ∀ k, (Value.slice AN nx.length cN).ownBlock = some k → k ≠ g8 := fun k hk => by have := HN.out.base k hk; omega
       exact (((HN.out.box hg hne 0 _).box hg hne 1 _).box hg hne 2 _).sealRo (fun k _ hk => hXX k hk) (fun k hk hx => by have := HN.out.base k hk; have := hXl k hx; omega)
      ·have e : (List.range M).map (tag11 tags) = tg := by rw [HE.out.2, show i = M by have := HJ.out; omega]
       rw [HRES.out]
       show PV kInt X _ _ ((List.range M).map (tag11 tags))
       rw [e]
       have hne : ∀ k, (Value.slice AT tg.length cT).ownBlock = some k → k ≠ g8 := fun k hk => by have := HT.out.base k hk; omega
       exact (((HT.out.box hg hne 0 _).box hg hne 1 _).box hg hne 2 _).sealRo (fun k _ hk => hXX k hk) (fun k hk hx => by have := HT.out.base k hk; have := hXl k hx; omega)
      ·have hg0 := HG0.out
       subst hg0
       exact (((below_step (below_step HB1.out HB5.out) HB.out).setCell (Nat.le_refl _) _).setCell (Nat.le_refl _) _).setCell (Nat.le_refl _) _
     | succ k1 =>
      have hiM : i < M := by have := HJ.out; omega
      have hi9 : i < 9 := by have := HMM.out; omega
      have d1 : decide ((i : Int) < (M : Int)) = true := decide_eq_true (by omega)
      have d2 : decide (i < M) = true := decide_eq_true hiM
      have HXo := Aside0.mk (HN.out.under (fun k hk => hk.elim (HX6.out _ _ HB.out HG.out k) (HT.out.lt k)))
      obtain ⟨wo, hwo⟩ : ∃ wo, wo = wr := ⟨_, rfl⟩
      subst hwo
      go_wp2_with fail
      go_loopg [13, 15, 16] P (fun m v13 v15 v16 w' => ∃ (j : Nat) (row : List Int), (v16 = .int .i64 j ∧ v13 = .int .i64 ((i * P + j : Nat) : Int)) ∧ Aside0 (j + m = P) ∧ Aside0 (row = (List.range j).map (fun j => cell11 next M (i * P + j))) ∧ Aside0 (Own kInt 3 (Xp (Xp (Xp Xc vT) vN) v15) w' wo.heap.size v15 row) ∧ Aside0 (Below wo.heap.size wo w'))
      case atStart => exact ⟨0, [], ⟨rfl, by simp⟩, ⟨by omega⟩, ⟨rfl⟩, ⟨Own.nil _ _ _ _ _⟩, ⟨Below.refl _ _⟩⟩
      case round =>
       obtain ⟨j, row, ⟨rfl, rfl⟩, HJ2, HR, HW, HB2⟩ := hrel
       have HBX := Aside0.mk (HG.out.step HB2.out)
       have y0 := HBX.out.cell 0 rfl
       obtain ⟨A15, c15, e15, _, _⟩ := HW.out.now
       subst e15
       cases gk with
       | zero =>
        have hj : j = P := by have := HJ2.out; omega
        have d3 : decide ((j : Int) < (P : Int)) = false := decide_eq_false (by omega)
        have d4 : decide (j < P) = false := decide_eq_false (by omega)
        have q0 : (P : Int) ≤ (j : Int) := by omega
        have HRW := Aside0.mk (show row = row11 next M P i by rw [HR.out, hj]; rfl)
        have HNX := Aside0.mk (show nx ++ [row] = (List.range (i + 1)).map (row11 next M P) by rw [HE.out.1, HRW.out, List.range_succ, List.map_append]; rfl)
        have HNL := Aside0.mk (show nx.length = i ∧ tg.length = i by rw [HE.out.1, HE.out.2]; simp)
        obtain ⟨t, ht⟩ : ∃ t, t = tag11 tags i := ⟨_, rfl⟩
        have HTG := Aside0.mk (show tg ++ [t] = (List.range (i + 1)).map (tag11 tags) by rw [HE.out.2, ht, List.range_succ, List.map_append]; rfl)
        have HTT := Aside0.mk ht
        have HIP := Aside0.mk (show i * P + j = (i + 1) * P by rw [hj, Nat.succ_mul])
        have HROW := Aside0.mk (HW.out.done HXo.out)
        have HB3 := Aside0.mk (below_step HB.out HB2.out)
        have HNr := Aside0.mk (HN.out.below HB2.out)
        have HTr := Aside0.mk (HT.out.below HB2.out)
        have HPr := Aside0.mk (HP.out.below HB2.out)
        have HV2r := Aside0.mk (HV2.out.below HB2.out)
        have HV3r := Aside0.mk (HV3.out.below HB2.out)
        rw [HIP.out]
        have HXr := Aside0.mk (show ∀ k, Xp (Xp Xc vT) vN k → k < _ from fun k hk => Nat.lt_of_lt_of_le (HXo.out k hk) HB2.out.size)
        clear ht hj HR HE HN HT HP HV2 HV3 HW
        go_upto_if 85 with (fail)
        go_cut [18] (fun v18 wc => v18 = .int .i64 t ∧ wc = wr)
        case first =>
         rcases Nat.lt_or_ge i tags.length with h0 | h0
         ·have d5 : decide ((i : Int) < (tags.length : Int)) = true := decide_eq_true (by omega)
          have d6 : decide (i < tags.length) = true := decide_eq_true h0
          obtain ⟨an, cn2, en, yn⟩ := intk_cell HV3r.out i h0
          cases en
          obtain ⟨z, hz⟩ : ∃ z, z = tags.getD i 0 := ⟨_, rfl⟩
          obtain ⟨y, hy⟩ : ∃ y, y = z.tmod 4 := ⟨_, rfl⟩
          have HX2 := Aside0.mk (show t = mx y (-1) by rw [HTT.out]; unfold tag11; rw [if_pos h0, hy, hz])
          have hzr := HRT.out _ (mem_getD tags 0 i h0)
          rw [← hz] at yn hzr
          have hw1 : wrap64 z = z := IntWalk.wrap64_in _ (by omega)
          have hyr : -1000 ≤ y ∧ y ≤ 1000 := by
           rw [hy]
           have h1 := Int.tmod_lt_of_pos z (b := 4) (by omega)
           have h2 := Int.lt_tmod_of_pos z (b := 4) (by omega)
           omega
          obtain ⟨hy1, hy2⟩ := hyr
          replace hy := hy.symm
          clear hz hzr
          go_wp2_with fail
          all_goals
           go_meet
           case rel => exact ⟨by first | (rw [HX2.out]; done) | (rw [HX2.out]; rfl) | (rw [HX2.out]; unfold mx; split <;> first | rfl | (exfalso; omega)), rfl⟩
         ·have d5 : decide ((i : Int) < (tags.length : Int)) = false := decide_eq_false (by omega)
          have d6 : decide (i < tags.length) = false := decide_eq_false (by omega)
          have q1 : tags.length ≤ i := h0
          have q2 : (tags.length : Int) ≤ (i : Int) := by omega
          have HX2 := Aside0.mk (show t = -1 by rw [HTT.out]; unfold tag11; rw [if_neg (by omega)])
          go_wp2_with fail
          go_meet
          case rel => exact ⟨by rw [HX2.out], rfl⟩
        case rest =>
         obtain ⟨rfl, hw⟩ := hcut
         obtain rfl := hw.symm
         clear HTT
         have yb1 := HBX.out.cell 1 rfl
         go_wp2_with (first
          | ((with_reducible refine gate_dst (N := 96) rfl ?_); refine lit kRow 34 (X := _) ?hg (N := 96) ?hd (xs := [row]) (inner := [.slice A15 row.length c15]) ?hr ?hp HXr.out (by simp) HB3.out HB3.out.size ?_; (case hd => rfl); (case hg => rfl); (case hr => first | (go_simp; done) | (go_simp; rfl)); (case hp => exact Reps.one (PK.slice HROW.out) (Reps.none _ _)); intro v7 w7 hv hb3 hb; have H7 := Aside0.mk hv; have HN7 := Aside0.mk (HNr.out.below hb3); have HT7 := Aside0.mk (HTr.out.below hb3); have HP7 := Aside0.mk (HPr.out.below hb3); have HV27 := Aside0.mk (HV2r.out.below hb3); have HV37 := Aside0.mk (HV3r.out.below hb3); have HG7 := Aside0.mk (HBX.out.step hb3); have HB7 := Aside0.mk hb; clear hv hb3 hb; obtain ⟨A_v7, c_v7, e_v7, _⟩ := H7.out.now; subst e_v7)
          | ((with_reducible refine gate_builtin (b := .append) (xs := #[.tmp 94, .tmp 96]) rfl ?_); at_builtin; refine grow kRow w5.heap.size rfl (.tmp 94) (.tmp 96) 33 34 (.slice none 0 0) 24 rfl Tryd.underlying33 info34 rfl (by decide) (by omega) _ _ nx [row] rfl rfl HN7.out H7.out HB7.out.size (by have := HNL.out.1; simp; omega) HB7.out ?_; intro v8 w8 ho hat hg hb; have HN8 := Aside0.mk ho; obtain ⟨nx1, hnx1⟩ : ∃ q, q = nx ++ [row] := ⟨_, rfl⟩; rw [← hnx1] at ho; obtain ⟨A8, c8, e8, _, _⟩ := ho.now; subst e8; have HNE := Aside0.mk hnx1; clear hnx1; have HT8 := Aside0.mk (HT7.out.app hat hg (HT7.out.ne HN7.out (by decide))); have HP8 := Aside0.mk (HP7.out.app hat hg); have HV28 := Aside0.mk (HV27.out.app hat hg); have HV38 := Aside0.mk (HV37.out.app hat hg); have HG8b := Aside0.mk (HG7.out.grown hg (fun e => HN7.out.ne_box HG7.out (by decide) _ e.symm rfl)); have yc1 := HG8b.out.cell 1 rfl; have yf1 := HG8b.out.open_ 1; have HG9 := Aside0.mk (HG8b.out.set 1 (.slice A8 nx1.length c8)); have HX8 := Aside0.mk (show Xp (Xp Xc vT) (.slice A8 nx1.length c8) w5.heap.size from .inl (.inl HXG.out)); have HN9 := Aside0.mk ((ho.box HX8.out (ho.ne_box HG8b.out (by decide)) 1 (.slice A8 nx1.length c8)).swap); have HT9 := Aside0.mk ((HT8.out.box HX8.out (HT8.out.ne_box HG8b.out (by decide)) 1 (.slice A8 nx1.length c8)).swap); have HP9 := Aside0.mk ((HP8.out.box HX8.out 1 (.slice A8 nx1.length c8)).swap); have HV29 := Aside0.mk ((HV28.out.box HX8.out 1 (.slice A8 nx1.length c8)).swap); have HV39 := Aside0.mk ((HV38.out.box HX8.out 1 (.slice A8 nx1.length c8)).swap); have HB9 := Aside0.mk (below_set (j := 1) (v := (.slice A8 nx1.length c8)) hb (Nat.le_refl _)); have yd2 := HG9.out.cell 2 rfl; have HB8 := Aside0.mk hb; clear ho hat hg hb)
          | ((with_reducible refine gate_dst (N := 102) rfl ?_); refine lit kInt 3 (X := _) ?hg (N := 102) ?hd (xs := [t]) (inner := [.int .i64 t]) ?hr ?hp (HT9.out.under (fun k hk => hk.elim (HX6.out _ _ HB9.out HG9.out k) (HN9.out.lt k))) (by simp) HB9.out HB9.out.size ?_; (case hd => rfl); (case hg => rfl); (case hr => first | (go_simp; done) | (go_simp; rfl)); (case hp => exact Reps.one (PK.scalar t) (Reps.none _ _)); intro v10 w10 hv hb3 hb; have H10 := Aside0.mk hv; have HN10 := Aside0.mk (HN9.out.below hb3); have HT10 := Aside0.mk (HT9.out.below hb3); have HP10 := Aside0.mk (HP9.out.below hb3); have HV210 := Aside0.mk (HV29.out.below hb3); have HV310 := Aside0.mk (HV39.out.below hb3); have HG10 := Aside0.mk (HG9.out.step hb3); have HB10 := Aside0.mk hb; clear hv hb3 hb; obtain ⟨A_v10, c_v10, e_v10, _⟩ := H10.out.now; subst e_v10)
          | ((with_reducible refine gate_builtin (b := .append) (xs := #[.tmp 100, .tmp 102]) rfl ?_); at_builtin; refine grow kInt w5.heap.size rfl (.tmp 100) (.tmp 102) 34 3 (.int .i64 0) 8 rfl Tryd.underlying34 info3 rfl (by decide) (by omega) _ _ tg [t] rfl rfl HT10.out H10.out HB10.out.size (by have := HNL.out.2; simp; omega) HB10.out ?_; intro v11 w11 ho hat hg hb; have HT11 := Aside0.mk ho; obtain ⟨tg1, htg1⟩ : ∃ q, q = tg ++ [t] := ⟨_, rfl⟩; rw [← htg1] at ho; obtain ⟨A11, c11, e11, _, _⟩ := ho.now; subst e11; have HTE := Aside0.mk htg1; clear htg1; have HN11 := Aside0.mk (HN10.out.app hat hg (HN10.out.ne HT10.out (by decide))); have HP11 := Aside0.mk (HP10.out.app hat hg); have HV211 := Aside0.mk (HV210.out.app hat hg); have HV311 := Aside0.mk (HV310.out.app hat hg); have HG11 := Aside0.mk (HG10.out.grown hg (fun e => HT10.out.ne_box HG10.out (by decide) _ e.symm rfl)); have ye2 := HG11.out.cell 2 rfl; have yf2 := HG11.out.open_ 2; have HG12 := Aside0.mk (HG11.out.set 2 (.slice A11 tg1.length c11)); have HX11 := Aside0.mk (show Xp (Xp Xc (.slice A8 nx1.length c8)) (.slice A11 tg1.length c11) w5.heap.size from .inl (.inl HXG.out)); have HT12 := Aside0.mk ((ho.box HX11.out (ho.ne_box HG11.out (by decide)) 2 (.slice A11 tg1.length c11)).swap); have HN12 := Aside0.mk ((HN11.out.box HX11.out (HN11.out.ne_box HG11.out (by decide)) 2 (.slice A11 tg1.length c11)).swap); have HP12 := Aside0.mk ((HP11.out.box HX11.out 2 (.slice A11 tg1.length c11)).swap); have HV212 := Aside0.mk ((HV211.out.box HX11.out 2 (.slice A11 tg1.length c11)).swap); have HV312 := Aside0.mk ((HV311.out.box HX11.out 2 (.slice A11 tg1.length c11)).swap); have HB12 := Aside0.mk (below_set (j := 2) (v := (.slice A11 tg1.length c11)) hb (Nat.le_refl _)); have HB11 := Aside0.mk hb; clear ho hat hg hb))
         go_roundg k1
         case measure => omega
         case rel => exact ⟨i + 1, _, _, nx1, tg1, ⟨by go_num, by go_num⟩, ⟨by have := HJ.out; omega⟩, HG12, ⟨by rw [HNE.out]; exact HNX.out, by rw [HTE.out]; exact HTG.out⟩, HN12, HT12, HP12, HV212, HV312, HB12⟩
       | succ k2 =>
        have hj : j < P := by have := HJ2.out; omega
        have hj15 : j < 15 := by have := HPM.out; omega
        have d3 : decide ((j : Int) < (P : Int)) = true := decide_eq_true (by omega)
        have d4 : decide (j < P) = true := decide_eq_true hj
        have HRW := Aside0.mk (show row.length = j by rw [HR.out]; simp)
        obtain ⟨a, ha⟩ : ∃ a, a = i * P + j := ⟨_, rfl⟩
        have ha2 : a ≤ 1000 := by
         rw [ha]
         have : i * P ≤ 9 * 15 := Nat.mul_le_mul (by omega) HPM.out
         omega
        obtain ⟨x, hx⟩ : ∃ x, x = cell11 next M a := ⟨_, rfl⟩
        have HR2 := Aside0.mk (show row ++ [x] = (List.range (j + 1)).map (fun j => cell11 next M (i * P + j)) by rw [HR.out, List.range_succ, List.map_append, hx, ha]; rfl)
        have HA := Aside0.mk (show a + 1 = i * P + (j + 1) by omega)
        have HXX := Aside0.mk hx
        rw [← ha]
        clear hx ha HR
        go_upto_if 64 with (fail)
        go_cut [17] (fun v17 wc => v17 = .int .i64 x ∧ wc = wr)
        case first =>
         rcases Nat.eq_zero_or_pos next.length with h0 | h0
         ·have d5 : decide ((next.length : Int) > 0) = false := decide_eq_false (by omega)
          have d6 : decide (0 < next.length) = false := decide_eq_false (by omega)
          have HX2 := Aside0.mk (show x = 0 by rw [HXX.out]; unfold cell11; rw [if_neg (by omega)])
          have q1 : next.length ≤ 0 := by omega
          have q2 : (next.length : Int) ≤ 0 := by omega
          clear h0
          go_wp2_with fail
          go_meet
          case rel => exact ⟨by rw [HX2.out], rfl⟩
         ·have d5 : decide ((next.length : Int) > 0) = true := decide_eq_true (by omega)
          have d6 : decide (0 < next.length) = true := decide_eq_true h0
          obtain ⟨an, cn2, en, yn⟩ := intk_cell (HV2.out.below HB2.out) (a % next.length) (Nat.mod_lt _ h0)
          cases en
          obtain ⟨z, hz⟩ : ∃ z, z = next.getD (a % next.length) 0 := ⟨_, rfl⟩
          obtain ⟨y, hy⟩ : ∃ y, y = z.tmod (M : Int) := ⟨_, rfl⟩
          have HX2 := Aside0.mk (show x = mx y (-1) by rw [HXX.out]; unfold cell11; rw [if_pos h0, hy, hz])
          have hzr := HRN.out _ (mem_getD next 0 (a % next.length) (Nat.mod_lt _ h0))
          rw [← hz] at yn hzr
          have hm : ((a : Int) % (next.length : Int)) = ((a % next.length : Nat) : Int) := (Int.natCast_emod _ _).symm
          have hm0 : (0 : Int) ≤ (a : Int) % (next.length : Int) := by rw [hm]; omega
          have hm1 : (a : Int) % (next.length : Int) < (next.length : Int) := by rw [hm]; have := Nat.mod_lt a h0; omega
          have hm2 : ((a : Int) % (next.length : Int)).toNat = a % next.length := by rw [hm]; rfl
          have hml : a % next.length < next.length := Nat.mod_lt _ h0
          obtain ⟨q, hq⟩ : ∃ q, q = a % next.length := ⟨_, rfl⟩
          rw [← hq] at hm hml yn hm2
          clear hm
          have hw1 : wrap64 z = z := IntWalk.wrap64_in _ (by omega)
          have hM1 : (1 : Int) ≤ (M : Int) := by have := HMM.out; omega
          have hyr : -1000 ≤ y ∧ y ≤ 1000 := by
           rw [hy]
           have := HMM.out
           have h1 := Int.tmod_lt_of_pos z (b := (M : Int)) (by omega)
           have h2 := Int.lt_tmod_of_pos z (b := (M : Int)) (by omega)
           omega
          obtain ⟨hy1, hy2⟩ := hyr
          replace hy := hy.symm
          clear hz hq hzr
          go_wp2_with fail
          all_goals
           go_meet
           case rel => exact ⟨by first | (rw [HX2.out]; done) | (rw [HX2.out]; rfl) | (rw [HX2.out]; unfold mx; split <;> first | rfl | (exfalso; omega)), rfl⟩
        case rest =>
         obtain ⟨rfl, hw⟩ := hcut
         obtain rfl := hw.symm
         clear HXX
         go_wp2_with (first
          | ((with_reducible refine gate_dst (N := 78) rfl ?_); refine lit kInt 3 (X := _) ?hg (N := 78) ?hd (xs := [x]) (inner := [.int .i64 x]) ?hr ?hp (HW.out.under (fun k hk => Nat.lt_of_lt_of_le (HXo.out k hk) HB2.out.size)) (by simp) HB2.out HB2.out.size ?_; (case hd => rfl); (case hg => rfl); (case hr => first | (go_simp; done) | (go_simp; rfl)); (case hp => exact Reps.one (PK.scalar x) (Reps.none _ _)); intro v7 w7 hv hb3 hb; have H7 := Aside0.mk hv; have HW7 := Aside0.mk (HW.out.below hb3); have HB7 := Aside0.mk hb; clear hv hb3 hb; obtain ⟨A_v7, c_v7, e_v7, _⟩ := H7.out.now; subst e_v7)
          | ((with_reducible refine gate_builtin (b := .append) (xs := #[.tmp 76, .tmp 78]) rfl ?_); at_builtin; refine grow kInt wo.heap.size rfl (.tmp 76) (.tmp 78) 34 3 (.int .i64 0) 8 rfl Tryd.underlying34 info3 rfl (by decide) (by omega) _ _ row [x] rfl rfl HW7.out H7.out HB7.out.size (by have := HRW.out; simp; omega) HB7.out ?_; intro v8 w8 ho hat hg hb; have HW8 := Aside0.mk ho; have HB8 := Aside0.mk hb; clear ho hat hg hb))
         go_roundg k2
         case measure => omega
         case rel => exact ⟨j + 1, _, ⟨by go_num, by rw [← HA.out]; go_num⟩, ⟨by have := HJ2.out; omega⟩, HR2, HW8, HB8⟩
end Go.Proofs.YtplhfgobeicegaaDoor.P
namespace Go.Proofs.YtplhfgobeicegaaDoor.P
open Go Go.RowKit Go.Proofs.YtplhfgobeicegaaDoorW.PrintWords Go.Proofs.YtplhfgobeicegaaDoorW.PrintLast Go.Proofs.YtplhfgobeicegaaDoorW.PrintMore Go.Proofs.YtplhfgobeicegaaDoor.PX
set_option linter.unusedVariables false
set_option linter.unusedSimpArgs false
set_option maxRecDepth 100000
def BRow (next : List (List Int)) (tags : List Int) (i : Nat) : Prop := (next.getD i []).length = 256 ∧ -1 ≤ tags.getD i 0 ∧ ∀ j, j < 256 → -1 ≤ (next.getD i []).getD j 0 ∧ (next.getD i []).getD j 0 < (tags.length : Int)
def BHead (next : List (List Int)) (tags : List Int) : Prop := 1 ≤ tags.length ∧ tags.length ≤ 40000 ∧ next.length = tags.length
def BSound (next : List (List Int)) (tags : List Int) : Prop := BHead next tags ∧ ∀ i, i < tags.length → BRow next tags i
instance (next : List (List Int)) (tags : List Int) (i : Nat) : Decidable (BRow next tags i) := by unfold BRow; infer_instance
instance (next : List (List Int)) (tags : List Int) : Decidable (BHead next tags) := by unfold BHead; infer_instance
instance (next : List (List Int)) (tags : List Int) : Decidable (BSound next tags) := by unfold BSound; infer_instance
set_option maxHeartbeats 8000000 in
theorem bsound_calls (X : Nat → Prop) (vn vt : Value) (next : List (List Int)) (tags : List Int) (w : World) (hX : ∀ k, X k → k < w.heap.size) (hn : PV kRow X w vn next) (ht : PV kInt X w vt tags) :
  Calls Tryd.prog 36 #[.agg #[vn, vt]] w fun e w' => e = .returned (.bool (decide (BSound next tags))) ∧ Below w.heap.size w w' := by
 have H1 := Aside0.mk hn
 have H2 := Aside0.mk ht
 have m1 := hn.max
 have m2 := ht.max
 obtain ⟨An, cn, rfl, _, _⟩ := hn.now
 obtain ⟨At, ct, rfl, _, _⟩ := ht.now
 have HS := Aside0.mk ((Sep.start hX).push_box [.slice An next.length cn, .slice At tags.length ct] 55)
 obtain ⟨q, hq⟩ : ∃ q, q = decide (BSound next tags) := ⟨_, rfl⟩
 rw [← hq]
 have HQ := Aside0.mk (show q = true ↔ BSound next tags by rw [hq]; exact decide_eq_true_iff)
 clear hn ht hX hq
 have no : ¬ BSound next tags → q = false := fun h => by
  cases hqq : q
  ·rfl
  ·exact absurd (HQ.out.1 hqq) h
 have HNO := Aside0.mk no
 clear no
 by_cases hh : BHead next tags
 case neg =>
  have q0 : q = false := HNO.out (fun h => hh h.1)
  clear HQ HNO
  subst q0
  unfold BHead at hh
  rcases Nat.lt_or_ge tags.length 1 with h1 | h1
  case' inl =>
   have d1 : decide ((tags.length : Int) < 1) = true := decide_eq_true (by omega)
   have d1' : decide (tags.length < 1) = true := decide_eq_true h1
  case' inr =>
   have d1 : decide ((tags.length : Int) < 1) = false := decide_eq_false (by omega)
   have d1' : decide (tags.length < 1) = false := decide_eq_false (by omega)
   rcases Nat.lt_or_ge 40000 tags.length with h2 | h2
  case' inr.inl =>
   have d2 : decide ((tags.length : Int) > 40000) = true := decide_eq_true (by omega)
   have d2' : decide (40000 < tags.length) = true := decide_eq_true h2
  case' inr.inr =>
   have d2 : decide ((tags.length : Int) > 40000) = false := decide_eq_false (by omega)
   have d2' : decide (40000 < tags.length) = false := decide_eq_false (by omega)
   have d3 : ((next.length : Int) == (tags.length : Int)) = false := beq_eq_false_iff_ne.mpr (by omega)
   have d3' : ((next.length : Int) != (tags.length : Int)) = true := bne_iff_ne.mpr (by omega)
  all_goals
   clear hh
   go_enter Tryd.func36, Tryd.ntmps36
   go_wp2_with fail
   go_ret
   exact ⟨rfl, HS.out.below⟩
 case pos =>
  have HH := Aside0.mk hh
  obtain ⟨h1, h2, h3⟩ := hh
  have d1 : decide ((tags.length : Int) < 1) = false := decide_eq_false (by omega)
  have d1' : decide (tags.length < 1) = false := decide_eq_false (by omega)
  have d2 : decide ((tags.length : Int) > 40000) = false := decide_eq_false (by omega)
  have d2' : decide (40000 < tags.length) = false := decide_eq_false (by omega)
  have d3 : ((next.length : Int) == (tags.length : Int)) = true := beq_iff_eq.mpr (by omega)
  have d3' : ((next.length : Int) != (tags.length : Int)) = false := bne_eq_false_iff_eq.mpr (by omega)
  have HL3 := Aside0.mk h3
  clear h1 h2 h3
  go_enter Tryd.func36, Tryd.ntmps36
  go_wp2_with fail
  obtain ⟨g0, hg0⟩ : ∃ g, g = w.heap.size := ⟨_, rfl⟩
  rw [← hg0] at HS ⊢
  clear hg0 d1 d1' d2 d2' d3 d3'
  go_loopg [4] tags.length (fun m v4 w' => ∃ (i : Nat), v4 = .int .i64 i ∧ Aside0 (i + m = tags.length) ∧ Aside0 (∀ i', i' < i → BRow next tags i') ∧ Aside0 (Sep X w w' [.box g0 55 [.slice An next.length cn, .slice At tags.length ct]]))
  case atStart => exact ⟨0, rfl, ⟨by omega⟩, ⟨fun i' h => by omega⟩, HS⟩
  case round =>
   clear HS
   obtain ⟨i, rfl, HJ, HI, HS⟩ := hrel
   cases gk with
   | zero =>
    have e1 : decide ((i : Int) < (tags.length : Int)) = false := decide_eq_false (by have := HJ.out; omega)
    have e2 : decide (i < tags.length) = false := decide_eq_false (by have := HJ.out; omega)
    have q0 : q = true := HQ.out.2 ⟨HH.out, fun i' h => HI.out i' (by have := HJ.out; omega)⟩
    clear HQ HNO
    subst q0
    go_wp2_with fail
    go_ret
    exact ⟨rfl, HS.out.below⟩
   | succ k1 =>
    have hi : i < tags.length := by have := HJ.out; omega
    have hin : i < next.length := by rw [HL3.out]; exact hi
    have e1 : decide ((i : Int) < (tags.length : Int)) = true := decide_eq_true (by omega)
    have e2 : decide (i < tags.length) = true := decide_eq_true hi
    have hi0 : (0 : Int) ≤ (i : Int) := by omega
    have hi1 : (i : Int) < (tags.length : Int) := by omega
    have hi2 : (i : Int) < (next.length : Int) := by omega
    obtain ⟨an, cn', u, en, hu, yn0⟩ := H1.out.row i hin
    cases en
    obtain ⟨at_, ct', et, yt0⟩ := int_cell H2.out i hi
    cases et
    obtain ⟨Au, cu, rfl, _, _⟩ := hu.now
    have HU := Aside0.mk hu
    have HYN := Aside0.mk yn0
    have y0 := (HS.out.box 0 rfl).cell 0 rfl
    have y1 := (HS.out.box 0 rfl).cell 1 rfl
    have yn := pw_cell_below HS.out.below yn0
    have yt := pw_cell_below HS.out.below yt0
    have HROW := Aside0.mk (fun (h : BRow next tags i) => (show (next.getD i []).length = 256 ∧ -1 ≤ tags.getD i 0 ∧ ∀ j, j < 256 → -1 ≤ (next.getD i []).getD j 0 ∧ (next.getD i []).getD j 0 < (tags.length : Int) from h))
    have HROW2 := Aside0.mk (fun (h : (next.getD i []).length = 256 ∧ -1 ≤ tags.getD i 0 ∧ ∀ j, j < 256 → -1 ≤ (next.getD i []).getD j 0 ∧ (next.getD i []).getD j 0 < (tags.length : Int)) => (show BRow next tags i from h))
    have HNR := Aside0.mk (fun (h : ¬ BRow next tags i) => HNO.out (fun hs => h (hs.2 i hi)))
    generalize next.getD i [] = row at *
    generalize tags.getD i 0 = tg at *
    clear hu yn0 yt0
    rcases Decidable.em (row.length = 256 ∧ -1 ≤ tg) with hr | hr
    case inr =>
     have q0 : q = false := HNR.out (fun h => hr ⟨(HROW.out h).1, (HROW.out h).2.1⟩)
     clear HQ HNO HNR HROW HROW2
     subst q0
     rcases Decidable.em (row.length = 256) with h4 | h4
     case' inl =>
      have d4 : ((row.length : Int) == 256) = true := beq_iff_eq.mpr (by omega)
      have d4' : ((row.length : Int) != 256) = false := bne_eq_false_iff_eq.mpr (by omega)
      have d5 : decide (tg < -1) = true := decide_eq_true (by omega)
     case' inr =>
      have d4 : ((row.length : Int) == 256) = false := beq_eq_false_iff_ne.mpr (by omega)
      have d4' : ((row.length : Int) != 256) = true := bne_iff_ne.mpr (by omega)
     all_goals
      clear hr h4
      go_wp2_with fail
      go_ret
      exact ⟨rfl, HS.out.below⟩
    case inl =>
     obtain ⟨h4, h5⟩ := hr
     have d4 : ((row.length : Int) == 256) = true := beq_iff_eq.mpr (by omega)
     have d4' : ((row.length : Int) != 256) = false := bne_eq_false_iff_eq.mpr (by omega)
     have d5 : decide (tg < -1) = false := decide_eq_false (by omega)
     have HR4 := Aside0.mk (And.intro h4 h5)
     go_wp2_with fail
     clear d4 d4' d5 y0 y1 yn yt e1 e2 h4 h5
     go_loopg [5] 256 (fun m v5 w' => ∃ (j : Nat), v5 = .int .i64 j ∧ Aside0 (j + m = 256) ∧ Aside0 (∀ j', j' < j → -1 ≤ row.getD j' 0 ∧ row.getD j' 0 < (tags.length : Int)) ∧ Aside0 (Sep X w w' [.box g0 55 [.slice (some an) next.length cn, .slice (some at_) tags.length ct]]))
     case atStart => exact ⟨0, rfl, ⟨by omega⟩, ⟨fun j' h => by omega⟩, HS⟩
     case round =>
      clear HS
      obtain ⟨j, rfl, HJ2, HI2, HS⟩ := hrel
      have y0 := (HS.out.box 0 rfl).cell 0 rfl
      have yn := pw_cell_below HS.out.below HYN.out
      cases gk with
      | zero =>
       have e1 : decide ((j : Int) < 256) = false := decide_eq_false (by have := HJ2.out; omega)
       have e2 : decide (j < 256) = false := decide_eq_false (by have := HJ2.out; omega)
       have HB := Aside0.mk (HROW2.out ⟨HR4.out.1, HR4.out.2, fun j' h => HI2.out j' (by have := HJ2.out; omega)⟩)
       go_wp2_with fail
       go_roundg k1
       case measure => omega
       case rel => exact ⟨i + 1, by go_num, ⟨by have := HJ.out; omega⟩, ⟨fun i' h => (Nat.lt_or_ge i' i).elim (HI.out i') (fun h2 => by
        have : i' = i := by omega
        rw [this]; exact HB.out)⟩, HS⟩
      | succ j1 =>
       have hj : j < 256 := by have := HJ2.out; omega
       have hjr : j < row.length := by have := HR4.out; omega
       have e1 : decide ((j : Int) < 256) = true := decide_eq_true (by omega)
       have e2 : decide (j < 256) = true := decide_eq_true hj
       have hj0 : (0 : Int) ≤ (j : Int) := by omega
       have hj1 : (j : Int) < (row.length : Int) := by omega
       obtain ⟨ar, cr, er, yr0⟩ := int_cell HU.out j hjr
       cases er
       have yr := pw_cell_below HS.out.below yr0
       obtain ⟨x, hx⟩ : ∃ x, x = row.getD j 0 := ⟨_, rfl⟩
       rw [← hx] at yr
       have HX := Aside0.mk hx.symm
       clear yr0 hx
       rcases Decidable.em (-1 ≤ x ∧ x < (tags.length : Int)) with h6 | h6
       case inl =>
        have d6 : decide (x < -1) = false := decide_eq_false (by omega)
        have d7 : decide (x ≥ (tags.length : Int)) = false := decide_eq_false (by omega)
        have d8 : decide ((tags.length : Int) ≤ x) = false := decide_eq_false (by omega)
        have HI3 := Aside0.mk (show ∀ j', j' < j + 1 → -1 ≤ row.getD j' 0 ∧ row.getD j' 0 < (tags.length : Int) from fun j' h => (Nat.lt_or_ge j' j).elim (HI2.out j') (fun h2 => by
         have : j' = j := by omega
         rw [this, HX.out]; exact h6))
        go_wp2_with fail
        go_roundg j1
        case measure => omega
        case rel => exact ⟨j + 1, by go_num, ⟨by have := HJ2.out; omega⟩, HI3, HS⟩
       case inr =>
        have q0 : q = false := HNR.out (fun h => h6 (by have := (HROW.out h).2.2 j hj; rwa [HX.out] at this))
        clear HQ HNO HNR HROW HROW2
        subst q0
        rcases Decidable.em (x < -1) with h7 | h7
        case' inl => have d6 : decide (x < -1) = true := decide_eq_true h7
        case' inr =>
         have d6 : decide (x < -1) = false := decide_eq_false h7
         have d7 : decide (x ≥ (tags.length : Int)) = true := decide_eq_true (by omega)
         have d8 : decide ((tags.length : Int) ≤ x) = true := decide_eq_true (by omega)
        all_goals
         clear h6 h7
         go_wp2_with fail
         go_ret
         exact ⟨rfl, HS.out.below⟩
end Go.Proofs.YtplhfgobeicegaaDoor.P
namespace Go.Proofs.YtplhfgobeicegaaDoor.P
open Go Go.RowKit Go.Proofs.YtplhfgobeicegaaDoorW.PrintWords Go.Proofs.YtplhfgobeicegaaDoorW.PrintLast Go.Proofs.YtplhfgobeicegaaDoorW.PrintMore Go.Proofs.YtplhfgobeicegaaDoor.PX
set_option linter.unusedVariables false
set_option linter.unusedSimpArgs false
set_option maxRecDepth 100000
set_option maxHeartbeats 8000000 in
theorem bsame13_calls (X : Nat → Prop) (va vs vb vt : Value) (na nb : List (List Int)) (ta tb : List Int) (w : World) (hX : ∀ k, X k → k < w.heap.size)
  (hna : PV kRow X w va na) (hta : PV kInt X w vs ta) (hnb : PV kRow X w vb nb) (htb : PV kInt X w vt tb) :
  Calls Tryd.prog 31 #[.agg #[va, vs], .agg #[vb, vt]] w fun e w' => e = .returned (.bool (decide (na = nb ∧ ta = tb))) ∧ Below w.heap.size w w' := by
 have HA := Aside0.mk hna
 have HS_ := Aside0.mk hta
 have HB_ := Aside0.mk hnb
 have HT_ := Aside0.mk htb
 have m1 := hna.max
 have m2 := hta.max
 have m3 := hnb.max
 have m4 := htb.max
 obtain ⟨Aa, ca, rfl, _, _⟩ := hna.now
 obtain ⟨As, cs, rfl, _, _⟩ := hta.now
 obtain ⟨Ab, cb, rfl, _, _⟩ := hnb.now
 obtain ⟨At, ct, rfl, _, _⟩ := htb.now
 obtain ⟨g0, hg0⟩ : ∃ g, g = w.heap.size := ⟨_, rfl⟩
 have HS := Aside0.mk (((Sep.start hX).push_box' [.slice Aa na.length ca, .slice As ta.length cs] 55 g0 hg0).push_box' [.slice Ab nb.length cb, .slice At tb.length ct] 55 (g0 + 1) (by subst hg0; simp))
 obtain ⟨q, hq⟩ : ∃ q, q = decide (na = nb ∧ ta = tb) := ⟨_, rfl⟩
 rw [← hq]
 have HQ := Aside0.mk (show q = true ↔ (na = nb ∧ ta = tb) by rw [hq]; exact decide_eq_true_iff)
 clear hna hta hnb htb hX hq
 have no : ¬ (na = nb ∧ ta = tb) → q = false := fun h => by
  cases hqq : q
  ·rfl
  ·exact absurd (HQ.out.1 hqq) h
 have HNO := Aside0.mk no
 clear no
 rcases Nat.decEq na.length nb.length with h1 | h1
 case' isFalse =>
  have q0 : q = false := HNO.out (fun h => h1 (by rw [h.1]))
  have d1 : ((na.length : Int) == (nb.length : Int)) = false := beq_eq_false_iff_ne.mpr (by omega)
  have d1' : ((na.length : Int) != (nb.length : Int)) = true := bne_iff_ne.mpr (by omega)
 case' isTrue =>
  have d1 : ((na.length : Int) == (nb.length : Int)) = true := beq_iff_eq.mpr (by omega)
  have d1' : ((na.length : Int) != (nb.length : Int)) = false := bne_eq_false_iff_eq.mpr (by omega)
  rcases Nat.decEq ta.length tb.length with h2 | h2
 case' isTrue.isFalse =>
  have q0 : q = false := HNO.out (fun h => h2 (by rw [h.2]))
  have d2 : ((ta.length : Int) == (tb.length : Int)) = false := beq_eq_false_iff_ne.mpr (by omega)
  have d2' : ((ta.length : Int) != (tb.length : Int)) = true := bne_iff_ne.mpr (by omega)
 case isFalse =>
  clear HQ HNO
  subst q0
  clear h1
  go_enter Tryd.func31, Tryd.ntmps31
  go_wp2_with fail
  go_ret
  exact ⟨rfl, HS.out.below⟩
 case isTrue.isFalse =>
  clear HQ HNO
  subst q0
  clear h1 h2
  go_enter Tryd.func31, Tryd.ntmps31
  go_wp2_with fail
  go_ret
  exact ⟨rfl, HS.out.below⟩
 case isTrue.isTrue =>
  have d2 : ((ta.length : Int) == (tb.length : Int)) = true := beq_iff_eq.mpr (by omega)
  have d2' : ((ta.length : Int) != (tb.length : Int)) = false := bne_eq_false_iff_eq.mpr (by omega)
  have HL1 := Aside0.mk h1
  have HL2 := Aside0.mk h2
  clear h1 h2
  go_enter Tryd.func31, Tryd.ntmps31
  go_wp2_with fail
  rw [← hg0]
  obtain ⟨w1, hw1⟩ : ∃ x, x = (w.alloc (.cells #[.slice Aa na.length ca, .slice As ta.length cs] 55)).alloc (.cells #[.slice Ab nb.length cb, .slice At tb.length ct] 55) := ⟨_, rfl⟩
  replace HS := Aside0.mk (show Sep X w w1 _ by rw [hw1]; exact HS.out)
  rw [← hw1]
  clear hg0 hw1 d1 d1' d2 d2'
  go_loopg [5] ta.length (fun m v5 w' => ∃ (i : Nat), v5 = .int .i64 i ∧ Aside0 (i + m = ta.length) ∧ Aside0 (ta.take i = tb.take i) ∧ Aside0 (Sep X w w' [.box g0 55 [.slice Aa na.length ca, .slice As ta.length cs], .box (g0 + 1) 55 [.slice Ab nb.length cb, .slice At tb.length ct]]))
  case atStart => exact ⟨0, rfl, ⟨by omega⟩, ⟨rfl⟩, HS⟩
  case round =>
   clear HS
   obtain ⟨i, rfl, HJ, HI, HS⟩ := hrel
   have y0 := (HS.out.box 0 rfl).cell 1 rfl
   have y1 := (HS.out.box 1 rfl).cell 1 rfl
   cases gk with
   | succ k1 =>
    have hi : i < ta.length := by have := HJ.out; omega
    have hi' : i < tb.length := by have := HJ.out; have := HL2.out; omega
    have e1 : decide ((i : Int) < (ta.length : Int)) = true := decide_eq_true (by omega)
    have e2 : decide (i < ta.length) = true := decide_eq_true hi
    have hi0 : (0 : Int) ≤ (i : Int) := by omega
    have hi1 : (i : Int) < (ta.length : Int) := by omega
    have hi2 : (i : Int) < (tb.length : Int) := by omega
    obtain ⟨ax, cx, ex, yx0⟩ := int_cell HS_.out i hi
    cases ex
    obtain ⟨ay, cy, ey, yy0⟩ := int_cell HT_.out i hi'
    cases ey
    have yx := pw_cell_below HS.out.below yx0
    have yy := pw_cell_below HS.out.below yy0
    have HSTEP := Aside0.mk (alike_step ta tb 0 i HI.out hi hi')
    have HNE := Aside0.mk (fun (h : ta.getD i 0 ≠ tb.getD i 0) => HNO.out (fun hs => h (by rw [hs.2])))
    clear yx0 yy0
    generalize ta.getD i 0 = x at *
    generalize tb.getD i 0 = y at *
    by_cases c : x = y
    case' pos =>
     have HT3 := Aside0.mk (HSTEP.out c)
     subst c
    case' neg =>
     have q0 : q = false := HNE.out c
     have d3 : (x == y) = false := beq_eq_false_iff_ne.mpr c
     have d3' : (x != y) = true := bne_iff_ne.mpr c
     clear HQ HNO HNE HSTEP c
     subst q0
    case neg =>
     go_wp2_with fail
     go_quiet (fail)
     have HS2 := Aside0.mk (HS.out.drewN nq)
     go_wp2_with fail
     go_ret
     exact ⟨rfl, HS2.out.below⟩
    case pos =>
     go_wp2_with fail
     go_quiet (fail)
     have HS2 := Aside0.mk (HS.out.drewN nq)
     go_wp2_with fail
     go_roundg k1
     case measure => omega
     case rel => exact ⟨i + 1, by go_num, ⟨by have := HJ.out; omega⟩, HT3, HS2⟩
   | zero =>
    have e1 : decide ((i : Int) < (ta.length : Int)) = false := decide_eq_false (by have := HJ.out; omega)
    have e2 : decide (i < ta.length) = false := decide_eq_false (by have := HJ.out; omega)
    have HTT := Aside0.mk (alike_end ta tb i HI.out (by have := HJ.out; omega) (by have := HJ.out; have := HL2.out; omega))
    go_wp2_with fail
    clear y0 y1 e1 e2
    go_loopg [6] na.length (fun m v6 w' => ∃ (i : Nat), v6 = .int .i64 i ∧ Aside0 (i + m = na.length) ∧ Aside0 (na.take i = nb.take i) ∧ Aside0 (Sep X w w' [.box g0 55 [.slice Aa na.length ca, .slice As ta.length cs], .box (g0 + 1) 55 [.slice Ab nb.length cb, .slice At tb.length ct]]))
    case atStart => exact ⟨0, rfl, ⟨by omega⟩, ⟨rfl⟩, HS⟩
    case round =>
     clear HS HI HJ
     obtain ⟨i, rfl, HJ, HI, HS⟩ := hrel
     have y0 := (HS.out.box 0 rfl).cell 0 rfl
     have y1 := (HS.out.box 1 rfl).cell 0 rfl
     cases gk with
     | zero =>
      have e1 : decide ((i : Int) < (na.length : Int)) = false := decide_eq_false (by have := HJ.out; omega)
      have e2 : decide (i < na.length) = false := decide_eq_false (by have := HJ.out; omega)
      have HNN := Aside0.mk (alike_end na nb i HI.out (by have := HJ.out; omega) (by have := HJ.out; have := HL1.out; omega))
      have q0 : q = true := HQ.out.2 ⟨HNN.out, HTT.out⟩
      clear HQ HNO
      subst q0
      go_wp2_with fail
      go_ret
      exact ⟨rfl, HS.out.below⟩
     | succ k1 =>
      have hi : i < na.length := by have := HJ.out; omega
      have hi' : i < nb.length := by have := HJ.out; have := HL1.out; omega
      have e1 : decide ((i : Int) < (na.length : Int)) = true := decide_eq_true (by omega)
      have e2 : decide (i < na.length) = true := decide_eq_true hi
      have hi0 : (0 : Int) ≤ (i : Int) := by omega
      have hi1 : (i : Int) < (na.length : Int) := by omega
      have hi2 : (i : Int) < (nb.length : Int) := by omega
      obtain ⟨ax, cx, ux, ex, hux, yx0⟩ := HA.out.row i hi
      cases ex
      obtain ⟨ay, cy, uy, ey, huy, yy0⟩ := HB_.out.row i hi'
      cases ey
      have yx := pw_cell_below HS.out.below yx0
      have yy := pw_cell_below HS.out.below yy0
      have HSTEP := Aside0.mk (alike_step na nb [] i HI.out hi hi')
      have HNE := Aside0.mk (fun (h : na.getD i [] ≠ nb.getD i []) => HNO.out (fun hs => h (by rw [hs.1])))
      have HYX := Aside0.mk yx0
      have HYY := Aside0.mk yy0
      clear yx0 yy0
      obtain ⟨rx, hrx⟩ : ∃ r, r = na.getD i [] := ⟨_, rfl⟩
      obtain ⟨ry, hry⟩ : ∃ r, r = nb.getD i [] := ⟨_, rfl⟩
      rw [← hrx] at hux HSTEP HNE
      rw [← hry] at huy HSTEP HNE
      clear hrx hry
      have m5 := hux.max
      have m6 := huy.max
      obtain ⟨Ax, dx, rfl, _, _⟩ := hux.now
      obtain ⟨Ay, dy, rfl, _, _⟩ := huy.now
      have HUX := Aside0.mk hux
      have HUY := Aside0.mk huy
      clear hux huy
      rcases Nat.decEq rx.length ry.length with c | c
      case isFalse =>
       have q0 : q = false := HNE.out (fun h => c (by rw [h]))
       have d3 : ((rx.length : Int) == (ry.length : Int)) = false := beq_eq_false_iff_ne.mpr (by omega)
       have d3' : ((rx.length : Int) != (ry.length : Int)) = true := bne_iff_ne.mpr (by omega)
       clear HQ HNO HNE HSTEP c
       subst q0
       go_wp2_with fail
       go_quiet (fail)
       have HS2 := Aside0.mk (HS.out.drewN nq)
       go_wp2_with fail
       go_ret
       exact ⟨rfl, HS2.out.below⟩
      case isTrue =>
       have d3 : ((rx.length : Int) == (ry.length : Int)) = true := beq_iff_eq.mpr (by omega)
       have d3' : ((rx.length : Int) != (ry.length : Int)) = false := bne_eq_false_iff_eq.mpr (by omega)
       have HLR := Aside0.mk c
       clear c
       go_wp2_with fail
       go_quiet (fail)
       have HS2 := Aside0.mk (HS.out.drewN nq)
       obtain ⟨wq, hwq⟩ : ∃ x, x = wr.drewN nq := ⟨_, rfl⟩
       rw [← hwq] at HS2 ⊢
       clear hwq y0 y1 yx yy d3 d3'
       go_wp2_with fail
       clear HS
       go_loopg [7] rx.length (fun m v7 w' => ∃ (j : Nat), v7 = .int .i64 j ∧ Aside0 (j + m = rx.length) ∧ Aside0 (rx.take j = ry.take j) ∧ Aside0 (Sep X w w' [.box g0 55 [.slice (some ax) na.length ca, .slice As ta.length cs], .box (g0 + 1) 55 [.slice (some ay) nb.length cb, .slice At tb.length ct]]))
       case atStart => exact ⟨0, rfl, ⟨by omega⟩, ⟨rfl⟩, HS2⟩
       case round =>
        clear HS2
        obtain ⟨j, rfl, HJ2, HI2, HS⟩ := hrel
        have y0 := (HS.out.box 0 rfl).cell 0 rfl
        have y1 := (HS.out.box 1 rfl).cell 0 rfl
        have yx := pw_cell_below HS.out.below HYX.out
        have yy := pw_cell_below HS.out.below HYY.out
        cases gk with
        | zero =>
         have e1 : decide ((j : Int) < (rx.length : Int)) = false := decide_eq_false (by have := HJ2.out; omega)
         have e2 : decide (j < rx.length) = false := decide_eq_false (by have := HJ2.out; omega)
         have HST := Aside0.mk (HSTEP.out (alike_end rx ry j HI2.out (by have := HJ2.out; omega) (by have := HJ2.out; have := HLR.out; omega)))
         go_wp2_with fail
         go_roundg k1
         case measure => omega
         case rel => exact ⟨i + 1, by go_num, ⟨by have := HJ.out; omega⟩, HST, HS⟩
        | succ j1 =>
         have hj : j < rx.length := by have := HJ2.out; omega
         have hj' : j < ry.length := by have := HJ2.out; have := HLR.out; omega
         have e1 : decide ((j : Int) < (rx.length : Int)) = true := decide_eq_true (by omega)
         have e2 : decide (j < rx.length) = true := decide_eq_true hj
         have hj0 : (0 : Int) ≤ (j : Int) := by omega
         have hj1 : (j : Int) < (rx.length : Int) := by omega
         have hj2 : (j : Int) < (ry.length : Int) := by omega
         obtain ⟨az, cz, ez, yz0⟩ := int_cell HUX.out j hj
         cases ez
         obtain ⟨at_, ct_, et, yt0⟩ := int_cell HUY.out j hj'
         cases et
         have yz := pw_cell_below HS.out.below yz0
         have yt := pw_cell_below HS.out.below yt0
         have HSTEP2 := Aside0.mk (alike_step rx ry 0 j HI2.out hj hj')
         have HNE2 := Aside0.mk (fun (h : rx.getD j 0 ≠ ry.getD j 0) => HNE.out (fun hs => h (by rw [hs])))
         clear yz0 yt0
         generalize rx.getD j 0 = x at *
         generalize ry.getD j 0 = y at *
         by_cases c : x = y
         case' pos =>
          have HT3 := Aside0.mk (HSTEP2.out c)
          subst c
         case' neg =>
          have q0 : q = false := HNE2.out c
          have d3 : (x == y) = false := beq_eq_false_iff_ne.mpr c
          have d3' : (x != y) = true := bne_iff_ne.mpr c
          clear HQ HNO HNE HSTEP HNE2 HSTEP2 c
          subst q0
         case neg =>
          go_wp2_with fail
          go_quiet (fail)
          have HS2 := Aside0.mk (HS.out.drewN nq)
          go_wp2_with fail
          go_ret
          exact ⟨rfl, HS2.out.below⟩
         case pos =>
          go_wp2_with fail
          go_quiet (fail)
          have HS2 := Aside0.mk (HS.out.drewN nq)
          go_wp2_with fail
          go_roundg j1
          case measure => omega
          case rel => exact ⟨j + 1, by go_num, ⟨by have := HJ2.out; omega⟩, HT3, HS2⟩
end Go.Proofs.YtplhfgobeicegaaDoor.P
namespace Go.Proofs.YtplhfgobeicegaaDoor.P
open Go Go.RowKit Go.Proofs.YtplhfgobeicegaaDoorW.PrintWords Go.Proofs.YtplhfgobeicegaaDoorW.PrintLast Go.Proofs.YtplhfgobeicegaaDoorW.PrintMore Go.Proofs.YtplhfgobeicegaaDoor.PX
set_option linter.unusedVariables false
set_option linter.unusedSimpArgs false
set_option maxRecDepth 100000
def U8s (s : List Int) : Prop := ∀ c ∈ s, 0 ≤ c ∧ c < 256
theorem u8s_at {s : List Int} (h : U8s s) (i : Nat) (hi : i < s.length) : ∃ n : Nat, s.getD i 0 = (n : Int) ∧ n < 256 := by
 have h1 := h (s.getD i 0) (by rw [List.getD_eq_getElem?_getD, List.getElem?_eq_getElem hi]; exact List.getElem_mem hi)
 exact ⟨(s.getD i 0).toNat, by omega, by omega⟩
theorem u8_cell {X : Nat → Prop} {w : World} {v : Value} {xs : List Int} (h : PV kU8 X w v xs) (j : Nat) (hj : j < xs.length) : ∃ ad c, v = .slice (some ad) xs.length c ∧ w.cell? (ad.add j) = some (.int .u8 (xs.getD j 0)) := by
 obtain ⟨A, c, rfl, _, hC⟩ := h.now
 obtain ⟨ad, e, y⟩ := Kd.at_int hC (j : Int) (by omega) (by omega)
 cases e
 exact ⟨ad, c, rfl, by simpa [rd] using y⟩
end Go.Proofs.YtplhfgobeicegaaDoor.P
