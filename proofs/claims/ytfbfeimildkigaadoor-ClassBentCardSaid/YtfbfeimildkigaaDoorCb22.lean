/- Part 22 of the proof: S14a, S14b, S14f, U6, T14, T04. -/
import Derived.Test.YtfbfeimildkigaaDoorCb21
namespace Go.Proofs.YtfbfeimildkigaaDoor.P
open Go Go.RowKit Go.Proofs.YtfbfeimildkigaaDoorW.PrintWords Go.Proofs.YtfbfeimildkigaaDoorW.PrintLast Go.Proofs.YtfbfeimildkigaaDoorW.PrintMore Go.Proofs.YtfbfeimildkigaaDoor.PX
set_option linter.unusedVariables false
set_option linter.unusedSimpArgs false
set_option maxRecDepth 100000
theorem sameCol_iff (next : List (List Int)) (a b : Nat) : sameCol next a b = true ↔ ∀ i, i < next.length → (next.getD i []).getD a 0 = (next.getD i []).getD b 0 := by
 unfold sameCol
 rw [List.all_eq_true]
 constructor
 ·intro h i hi
  have := h (next.getD i []) (by rw [List.getD_eq_getElem?_getD, List.getElem?_eq_getElem hi]; exact List.getElem_mem hi)
  exact of_decide_eq_true this
 ·intro h x hx
  obtain ⟨i, hi, rfl⟩ := List.getElem_of_mem hx
  have := h i hi
  rw [show next.getD i [] = next[i] by rw [List.getD_eq_getElem?_getD, List.getElem?_eq_getElem hi]; rfl] at this
  exact decide_eq_true this
set_option maxHeartbeats 8000000 in
theorem alike14_calls (X : Nat → Prop) (vn : Value) (next : List (List Int)) (a b : Nat) (w : World) (hn : PV kRow X w vn next) (hr : ∀ row ∈ next, a < row.length ∧ b < row.length) :
  Calls Tryd.prog 29 #[vn, .int .i64 a, .int .i64 b] w fun e w' => e = .returned (.bool (sameCol next a b)) ∧ Below w.heap.size w w' := by
 have H1 := Aside0.mk hn
 have HW := Aside0.mk (show ∀ i, i < next.length → a < (next.getD i []).length ∧ b < (next.getD i []).length from fun i hi => hr _ (by rw [List.getD_eq_getElem?_getD, List.getElem?_eq_getElem hi]; exact List.getElem_mem hi))
 have m1 := hn.max
 obtain ⟨An, cn, rfl, _, _⟩ := hn.now
 have HQ := Aside0.mk (sameCol_iff next a b)
 generalize sameCol next a b = q at *
 clear hn hr
 have no : (¬ ∀ i, i < next.length → (next.getD i []).getD a 0 = (next.getD i []).getD b 0) → q = false := fun h => by
  cases hqq : q
  ·rfl
  ·exact absurd (HQ.out.1 hqq) h
 have HNO := Aside0.mk no
 clear no
 go_enter Tryd.func29, Tryd.ntmps29
 go_wp2_with fail
 go_loopg [7] next.length (fun m v7 w' => ∃ (i : Nat), v7 = .int .i64 i ∧ Aside0 (i + m = next.length) ∧ Aside0 (∀ i', i' < i → (next.getD i' []).getD a 0 = (next.getD i' []).getD b 0) ∧ Aside0 (Below w.heap.size w w'))
 case atStart => exact ⟨0, rfl, ⟨by omega⟩, ⟨fun i' h => by omega⟩, ⟨Below.refl _ _⟩⟩
 case round =>
  obtain ⟨i, rfl, HJ, HI, HB⟩ := hrel
  cases gk with
  | zero =>
   have e1 : decide ((i : Int) < (next.length : Int)) = false := decide_eq_false (by have := HJ.out; omega)
   have e2 : decide (i < next.length) = false := decide_eq_false (by have := HJ.out; omega)
   have q0 : q = true := HQ.out.2 (fun i' h => HI.out i' (by have := HJ.out; omega))
   clear HQ HNO
   subst q0
   go_wp2_with fail
   go_ret
   exact ⟨rfl, HB.out⟩
  | succ k1 =>
   have hi : i < next.length := by have := HJ.out; omega
   have e1 : decide ((i : Int) < (next.length : Int)) = true := decide_eq_true (by omega)
   have e2 : decide (i < next.length) = true := decide_eq_true hi
   have hi0 : (0 : Int) ≤ (i : Int) := by omega
   have hi1 : (i : Int) < (next.length : Int) := by omega
   have ha0 : (0 : Int) ≤ (a : Int) := by omega
   have hb0 : (0 : Int) ≤ (b : Int) := by omega
   obtain ⟨an, cn', u, en, hun, yn0⟩ := H1.out.row i hi
   cases en
   obtain ⟨hal, hbl⟩ := HW.out i hi
   have HNE := Aside0.mk (fun (h : (next.getD i []).getD a 0 ≠ (next.getD i []).getD b 0) => HNO.out (fun hs => h (hs i hi)))
   have HST := Aside0.mk (show (next.getD i []).getD a 0 = (next.getD i []).getD b 0 → ∀ i', i' < i + 1 → (next.getD i' []).getD a 0 = (next.getD i' []).getD b 0 from fun h i' h1 => (Nat.lt_or_ge i' i).elim (HI.out i') (fun h2 => by
    have : i' = i := by omega
    rw [this]; exact h))
   obtain ⟨row, hrow⟩ : ∃ r, r = next.getD i [] := ⟨_, rfl⟩
   rw [← hrow] at hun hal hbl HNE HST
   clear hrow
   have ha1 : (a : Int) < (row.length : Int) := by omega
   have hb1 : (b : Int) < (row.length : Int) := by omega
   obtain ⟨Au, cu, rfl, _, _⟩ := hun.now
   obtain ⟨ar, cr, er, yr0⟩ := int_cell hun a hal
   cases er
   obtain ⟨ar2, cr2, er2, yr2⟩ := int_cell hun b hbl
   cases er2
   have yn := pw_cell_below HB.out yn0
   have yr := pw_cell_below HB.out yr0
   have ys := pw_cell_below HB.out yr2
   clear hun yn0 yr0 yr2 hal hbl
   generalize row.getD a 0 = x at *
   generalize row.getD b 0 = y at *
   by_cases c : x = y
   case' pos =>
    have HT3 := Aside0.mk (HST.out c)
    subst c
   case' neg =>
    have q0 : q = false := HNE.out c
    have d3 : (x == y) = false := beq_eq_false_iff_ne.mpr c
    have d3' : (x != y) = true := bne_iff_ne.mpr c
    clear HQ HNO HNE HST c
    subst q0
   case neg =>
    go_wp2_with fail
    go_quiet (fail)
    have HB2 := Aside0.mk (pw_below_drewN HB.out nq)
    go_wp2_with fail
    go_ret
    exact ⟨rfl, HB2.out⟩
   case pos =>
    go_wp2_with fail
    go_quiet (fail)
    have HB2 := Aside0.mk (pw_below_drewN HB.out nq)
    go_wp2_with fail
    go_roundg k1
    case measure => omega
    case rel => exact ⟨i + 1, by go_num, ⟨by have := HJ.out; omega⟩, HT3, HB2⟩
def manyGo : List Int → Int → Int
 | [], n => n
 | c :: t, n => if c > n then -1 else manyGo t (max n (c + 1))
def many14 (l : List Int) : Int := if manyGo l 0 = -1 ∨ l.length ≠ 256 then 0 else manyGo l 0
set_option maxHeartbeats 8000000 in
theorem many14_calls (X : Nat → Prop) (vl : Value) (l : List Int) (w : World) (hl : PV kU8 X w vl l) (hu : U8s l) :
  Calls Tryd.prog 34 #[vl] w fun e w' => e = .returned (.int .i64 (many14 l)) ∧ Below w.heap.size w w' := by
 have H1 := Aside0.mk hl
 have HU := Aside0.mk hu
 have m1 := hl.max
 obtain ⟨An, cn, rfl, _, _⟩ := hl.now
 obtain ⟨r, hr⟩ : ∃ r, r = many14 l := ⟨_, rfl⟩
 rw [← hr]
 obtain ⟨g, hg⟩ : ∃ g, g = manyGo l 0 := ⟨_, rfl⟩
 have HR := Aside0.mk (show r = if g = -1 ∨ l.length ≠ 256 then 0 else g by rw [hr, many14, ← hg])
 have HG := Aside0.mk (show manyGo (l.drop 0) 0 = g from hg.symm)
 clear hl hu hr hg
 go_enter Tryd.func34, Tryd.ntmps34
 go_wp2_with fail
 go_loopg [3, 4] l.length (fun m v3 v4 w' => ∃ (i : Nat) (n : Int), v3 = .int .i64 n ∧ v4 = .int .i64 i ∧ Aside0 (i + m = l.length) ∧ (0 ≤ n ∧ n ≤ 256) ∧ Aside0 (manyGo (l.drop i) n = g) ∧ Aside0 (Below w.heap.size w w'))
 case atStart => exact ⟨0, 0, rfl, rfl, ⟨by omega⟩, by omega, HG, ⟨Below.refl _ _⟩⟩
 case round =>
  clear HG
  obtain ⟨i, n, rfl, rfl, HJ, ⟨hn0, hn1⟩, HG, HB⟩ := hrel
  cases gk with
  | zero =>
   have e1 : decide ((i : Int) < (l.length : Int)) = false := decide_eq_false (by have := HJ.out; omega)
   have e2 : decide (i < l.length) = false := decide_eq_false (by have := HJ.out; omega)
   have q0 : n = g := by have h := HG.out; rw [List.drop_of_length_le (by have := HJ.out; omega)] at h; exact h
   subst q0
   rcases Nat.decEq l.length 256 with h | h
   case' isTrue =>
    have d1 : ((l.length : Int) == 256) = true := beq_iff_eq.mpr (by omega)
    have d1' : ((l.length : Int) != 256) = false := bne_eq_false_iff_eq.mpr (by omega)
    have q1 : r = n := by rw [HR.out, if_neg (by omega)]
   case' isFalse =>
    have d1 : ((l.length : Int) == 256) = false := beq_eq_false_iff_ne.mpr (by omega)
    have d1' : ((l.length : Int) != 256) = true := bne_iff_ne.mpr (by omega)
    have q1 : r = 0 := by rw [HR.out, if_pos (.inr h)]
   all_goals
    clear HR h
    subst q1
    go_wp2_with fail
    go_ret
    exact ⟨rfl, HB.out⟩
  | succ k1 =>
   have hi : i < l.length := by have := HJ.out; omega
   have e1 : decide ((i : Int) < (l.length : Int)) = true := decide_eq_true (by omega)
   have e2 : decide (i < l.length) = true := decide_eq_true hi
   have hi0 : (0 : Int) ≤ (i : Int) := by omega
   have hi1 : (i : Int) < (l.length : Int) := by omega
   obtain ⟨c, hc, hc2⟩ := u8s_at HU.out i hi
   obtain ⟨as_, cs', es, ys0⟩ := u8_cell H1.out i hi
   cases es
   rw [hc] at ys0
   have ys := pw_cell_below HB.out ys0
   have HR3 := HG.out
   rw [drop_at l 0 i hi, hc, manyGo] at HR3
   clear hc ys0 HG
   rcases Int.lt_or_le n c with h | h
   case inl =>
    have d1 : decide ((c : Int) > n) = true := decide_eq_true h
    have d1' : decide (n < (c : Int)) = true := decide_eq_true h
    rw [if_pos h] at HR3
    have q1 : r = 0 := by rw [HR.out, if_pos (.inl HR3.symm)]
    clear HR HR3
    subst q1
    go_wp2_with fail
    go_ret
    exact ⟨rfl, HB.out⟩
   case inr =>
    have d1 : decide ((c : Int) > n) = false := decide_eq_false (by omega)
    have d1' : decide (n < (c : Int)) = false := decide_eq_false (by omega)
    rw [if_neg (by omega)] at HR3
    have HR4 := Aside0.mk HR3
    clear HR3
    rcases Int.lt_or_le c n with h2 | h2
    case inl =>
     have HM := Aside0.mk (show max n ((c : Int) + 1) = n by omega)
     have d2 : decide (n < (c : Int) + 1) = false := decide_eq_false (by omega)
     have d3 : ¬ (n < (c : Int) + 1) := by omega
     have d4 : (c : Int) + 1 ≤ n := by omega
     have d5 : decide ((c : Int) + 1 ≤ n) = true := decide_eq_true d4
     go_wp2_with fail
     go_roundg k1
     case measure => omega
     case rel => exact ⟨i + 1, n, rfl, by go_num, ⟨by have := HJ.out; omega⟩, by omega, ⟨by rw [← HR4.out, HM.out]⟩, HB⟩
    case inr =>
     have HM := Aside0.mk (show max n ((c : Int) + 1) = (c : Int) + 1 by omega)
     have d2 : decide (n < (c : Int) + 1) = true := decide_eq_true (by omega)
     have d3 : (n < (c : Int) + 1) := by omega
     have d4 : ¬ (c : Int) + 1 ≤ n := by omega
     have d5 : decide ((c : Int) + 1 ≤ n) = false := decide_eq_false d4
     go_wp2_with fail
     go_roundg k1
     case measure => omega
     case rel => exact ⟨i + 1, (c : Int) + 1, rfl, by go_num, ⟨by have := HJ.out; omega⟩, by omega, ⟨by rw [← HR4.out, HM.out]⟩, HB⟩
end Go.Proofs.YtfbfeimildkigaaDoor.P
namespace Go.Proofs.YtfbfeimildkigaaDoor.P
open Go Go.RowKit Go.Proofs.YtfbfeimildkigaaDoorW.PrintWords Go.Proofs.YtfbfeimildkigaaDoorW.PrintLast Go.Proofs.YtfbfeimildkigaaDoorW.PrintMore Go.Proofs.YtfbfeimildkigaaDoor.PX
set_option linter.unusedVariables false
set_option linter.unusedSimpArgs false
set_option maxRecDepth 100000
theorem manyGo_le : ∀ (l : List Int) (n : Int), (∀ c ∈ l, 0 ≤ c ∧ c < 256) → -1 ≤ n → n ≤ 256 → -1 ≤ manyGo l n ∧ manyGo l n ≤ 256
 | [], n, _, h0, h1 => ⟨h0, h1⟩
 | c :: t, n, h, h0, h1 => by
  rw [manyGo]
  have hc := h c (List.mem_cons_self ..)
  by_cases h2 : c > n
  ·rw [if_pos h2]; omega
  ·rw [if_neg h2]; exact manyGo_le t _ (fun x hx => h x (List.mem_cons_of_mem _ hx)) (by omega) (by omega)
theorem many14_le {l : List Int} (h : U8s l) : ∃ n : Nat, many14 l = (n : Int) ∧ n ≤ 256 := by
 have h1 := manyGo_le l 0 h (by omega) (by omega)
 unfold many14
 by_cases h2 : manyGo l 0 = -1 ∨ l.length ≠ 256
 ·exact ⟨0, by rw [if_pos h2]; rfl, by omega⟩
 ·exact ⟨(manyGo l 0).toNat, by rw [if_neg h2]; omega, by omega⟩
def TRow (n : Nat) (next : List (List Int)) (tags : List Int) (i : Nat) : Prop := (next.getD i []).length = n ∧ -1 ≤ tags.getD i 0 ∧ ∀ j, j < n → -1 ≤ (next.getD i []).getD j 0 ∧ (next.getD i []).getD j 0 < (tags.length : Int)
def THead (n : Nat) (next : List (List Int)) (tags : List Int) : Prop := n ≠ 0 ∧ 1 ≤ tags.length ∧ tags.length ≤ 40000 ∧ next.length = tags.length
def TSoundN (n : Nat) (next : List (List Int)) (tags : List Int) : Prop := THead n next tags ∧ (∀ i, i < tags.length → TRow n next tags i) ∧ ∀ a, a < n → ∀ b, b < a → sameCol next a b = false
def TSound (cl : List Int) (next : List (List Int)) (tags : List Int) : Prop := TSoundN (many14 cl).toNat next tags
instance (n : Nat) (next : List (List Int)) (tags : List Int) (i : Nat) : Decidable (TRow n next tags i) := by unfold TRow; infer_instance
instance (n : Nat) (next : List (List Int)) (tags : List Int) : Decidable (THead n next tags) := by unfold THead; infer_instance
instance (n : Nat) (next : List (List Int)) (tags : List Int) : Decidable (TSoundN n next tags) := by unfold TSoundN; infer_instance
instance (cl : List Int) (next : List (List Int)) (tags : List Int) : Decidable (TSound cl next tags) := by unfold TSound; infer_instance
set_option maxHeartbeats 8000000 in
theorem tsound_calls (X : Nat → Prop) (vc vn vt : Value) (cl : List Int) (next : List (List Int)) (tags : List Int) (w : World) (hX : ∀ k, X k → k < w.heap.size) (hc : PV kU8 X w vc cl) (hn : PV kRow X w vn next) (ht : PV kInt X w vt tags) (hu : U8s cl) :
  Calls Tryd.prog 19 #[.agg #[vc, vn, vt]] w fun e w' => e = .returned (.bool (decide (TSound cl next tags))) ∧ Below w.heap.size w w' := by
 have H0 := Aside0.mk hc
 have H1 := Aside0.mk hn
 have H2 := Aside0.mk ht
 have HU := Aside0.mk hu
 have m1 := hn.max
 have m2 := ht.max
 obtain ⟨Ac, cc, rfl, _, _⟩ := hc.now
 obtain ⟨An, cn, rfl, _, _⟩ := hn.now
 obtain ⟨At, ct, rfl, _, _⟩ := ht.now
 have HS := Aside0.mk ((Sep.start hX).push_box [.slice Ac cl.length cc, .slice An next.length cn, .slice At tags.length ct] 31)
 obtain ⟨n, hnn, hn256⟩ := many14_le hu
 obtain ⟨q, hq⟩ : ∃ q, q = decide (TSound cl next tags) := ⟨_, rfl⟩
 rw [← hq]
 have HQ := Aside0.mk (show q = true ↔ TSoundN n next tags by rw [hq, decide_eq_true_iff, TSound, hnn]; exact Iff.rfl)
 have HN := Aside0.mk hnn
 clear hc hn ht hX hq hu hnn
 have no : ¬ TSoundN n next tags → q = false := fun h => by
  cases hqq : q
  ·rfl
  ·exact absurd (HQ.out.1 hqq) h
 have HNO := Aside0.mk no
 clear no
 by_cases hh : THead n next tags
 case neg =>
  have q0 : q = false := HNO.out (fun h => hh h.1)
  clear HQ HNO
  subst q0
  unfold THead at hh
  rcases Nat.eq_zero_or_pos n with h0 | h0
  case' inl =>
   have d0 : ((n : Int) == 0) = true := beq_iff_eq.mpr (by omega)
  case' inr =>
   have d0 : ((n : Int) == 0) = false := beq_eq_false_iff_ne.mpr (by omega)
   rcases Nat.lt_or_ge tags.length 1 with h1 | h1
  case' inr.inl =>
   have d1 : decide ((tags.length : Int) < 1) = true := decide_eq_true (by omega)
   have d1' : decide (tags.length < 1) = true := decide_eq_true h1
  case' inr.inr =>
   have d1 : decide ((tags.length : Int) < 1) = false := decide_eq_false (by omega)
   have d1' : decide (tags.length < 1) = false := decide_eq_false (by omega)
   rcases Nat.lt_or_ge 40000 tags.length with h2 | h2
  case' inr.inr.inl =>
   have d2 : decide ((tags.length : Int) > 40000) = true := decide_eq_true (by omega)
   have d2' : decide (40000 < tags.length) = true := decide_eq_true h2
  case' inr.inr.inr =>
   have d2 : decide ((tags.length : Int) > 40000) = false := decide_eq_false (by omega)
   have d2' : decide (40000 < tags.length) = false := decide_eq_false (by omega)
   have d3 : ((next.length : Int) == (tags.length : Int)) = false := beq_eq_false_iff_ne.mpr (by omega)
   have d3' : ((next.length : Int) != (tags.length : Int)) = true := bne_iff_ne.mpr (by omega)
  all_goals
   clear hh
   go_enter Tryd.func19, Tryd.ntmps19
   go_wp2_with (first
    | (go_at_call 34; (with_reducible refine (many14_calls _ _ cl _ (HS.out.arg H0.out) HU.out).mono ?_); rintro ee w5 ⟨rfl, hb⟩; rw [HN.out]; have hs := HS.out.call hb; have y1 := (hs.box 0 rfl).cell 1 rfl; have y2 := (hs.box 0 rfl).cell 2 rfl; clear hb; clear HS; have HS := Aside0.mk hs; clear hs))
   go_ret
   exact ⟨rfl, HS.out.below⟩
 case pos =>
  have HH := Aside0.mk hh
  obtain ⟨h0, h1, h2, h3⟩ := hh
  have d0 : ((n : Int) == 0) = false := beq_eq_false_iff_ne.mpr (by omega)
  have d1 : decide ((tags.length : Int) < 1) = false := decide_eq_false (by omega)
  have d1' : decide (tags.length < 1) = false := decide_eq_false (by omega)
  have d2 : decide ((tags.length : Int) > 40000) = false := decide_eq_false (by omega)
  have d2' : decide (40000 < tags.length) = false := decide_eq_false (by omega)
  have d3 : ((next.length : Int) == (tags.length : Int)) = true := beq_iff_eq.mpr (by omega)
  have d3' : ((next.length : Int) != (tags.length : Int)) = false := bne_eq_false_iff_eq.mpr (by omega)
  have HL3 := Aside0.mk h3
  clear h0 h1 h2 h3
  go_enter Tryd.func19, Tryd.ntmps19
  go_wp2_with (first
   | (go_at_call 34; (with_reducible refine (many14_calls _ _ cl _ (HS.out.arg H0.out) HU.out).mono ?_); rintro ee w5 ⟨rfl, hb⟩; rw [HN.out]; have hs := HS.out.call hb; have y1 := (hs.box 0 rfl).cell 1 rfl; have y2 := (hs.box 0 rfl).cell 2 rfl; clear hb; clear HS; have HS := Aside0.mk hs; clear hs))
  obtain ⟨g0, hg0⟩ : ∃ g, g = w.heap.size := ⟨_, rfl⟩
  rw [← hg0] at HS ⊢
  clear hg0 d0 d1 d1' d2 d2' d3 d3' y1 y2
  go_loopg [5] tags.length (fun m v5 w' => ∃ (i : Nat), v5 = .int .i64 i ∧ Aside0 (i + m = tags.length) ∧ Aside0 (∀ i', i' < i → TRow n next tags i') ∧ Aside0 (Sep X w w' [.box g0 31 [.slice Ac cl.length cc, .slice An next.length cn, .slice At tags.length ct]]))
  case atStart => exact ⟨0, rfl, ⟨by omega⟩, ⟨fun i' h => by omega⟩, HS⟩
  case round =>
   clear HS
   obtain ⟨i, rfl, HJ, HI, HS⟩ := hrel
   cases gk with
   | zero =>
    have e1 : decide ((i : Int) < (tags.length : Int)) = false := decide_eq_false (by have := HJ.out; omega)
    have e2 : decide (i < tags.length) = false := decide_eq_false (by have := HJ.out; omega)
    have HROWS := Aside0.mk (show ∀ i', i' < tags.length → TRow n next tags i' from fun i' h => HI.out i' (by have := HJ.out; omega))
    have HNC := Aside0.mk (fun (h : ¬ ∀ a, a < n → ∀ b, b < a → sameCol next a b = false) => HNO.out (fun hs => h hs.2.2))
    have HW := Aside0.mk (show ∀ row ∈ next, row.length = n from fun row hrow => by
     obtain ⟨i', hi', e'⟩ := List.getElem_of_mem hrow
     have h := (HROWS.out i' (by rw [← HL3.out]; exact hi')).1
     rw [List.getD_eq_getElem?_getD, List.getElem?_eq_getElem hi', e'] at h
     exact h)
    go_wp2_with fail
    clear e1 e2 HJ HI HNO
    go_loopg [7] n (fun m v7 w' => ∃ (a : Nat), v7 = .int .i64 a ∧ Aside0 (a + m = n) ∧ Aside0 (∀ a', a' < a → ∀ b, b < a' → sameCol next a' b = false) ∧ Aside0 (Sep X w w' [.box g0 31 [.slice Ac cl.length cc, .slice An next.length cn, .slice At tags.length ct]]))
    case atStart => exact ⟨0, rfl, ⟨by omega⟩, ⟨fun a' h => by omega⟩, HS⟩
    case round =>
     clear HS
     obtain ⟨a, rfl, HJ, HI, HS⟩ := hrel
     cases gk with
     | zero =>
      have e1 : decide ((a : Int) < (n : Int)) = false := decide_eq_false (by have := HJ.out; omega)
      have e2 : decide (a < n) = false := decide_eq_false (by have := HJ.out; omega)
      have q0 : q = true := HQ.out.2 ⟨HH.out, HROWS.out, fun a' h => HI.out a' (by have := HJ.out; omega)⟩
      clear HQ HNC
      subst q0
      go_wp2_with fail
      go_ret
      exact ⟨rfl, HS.out.below⟩
     | succ k1 =>
      have ha : a < n := by have := HJ.out; omega
      have e1 : decide ((a : Int) < (n : Int)) = true := decide_eq_true (by omega)
      have e2 : decide (a < n) = true := decide_eq_true ha
      have HA := Aside0.mk ha
      go_wp2_with fail
      clear e1 e2
      go_loopg [8] a (fun m v8 w' => ∃ (b : Nat), v8 = .int .i64 b ∧ Aside0 (b + m = a) ∧ Aside0 (∀ b', b' < b → sameCol next a b' = false) ∧ Aside0 (Sep X w w' [.box g0 31 [.slice Ac cl.length cc, .slice An next.length cn, .slice At tags.length ct]]))
      case atStart => exact ⟨0, rfl, ⟨by omega⟩, ⟨fun b' h => by omega⟩, HS⟩
      case round =>
       clear HS
       obtain ⟨b, rfl, HJ2, HI2, HS⟩ := hrel
       cases gk with
       | zero =>
        have e1 : decide ((b : Int) < (a : Int)) = false := decide_eq_false (by have := HJ2.out; omega)
        have e2 : decide (b < a) = false := decide_eq_false (by have := HJ2.out; omega)
        have HI3 := Aside0.mk (show ∀ a', a' < a + 1 → ∀ b, b < a' → sameCol next a' b = false from fun a' h b' hb' => (Nat.lt_or_ge a' a).elim (fun h2 => HI.out a' h2 b' hb') (fun h2 => by
         have : a' = a := by omega
         subst this
         exact HI2.out b' (by have := HJ2.out; omega)))
        go_wp2_with fail
        go_roundg k1
        case measure => omega
        case rel => exact ⟨a + 1, by go_num, ⟨by have := HJ.out; omega⟩, HI3, HS⟩
       | succ b1 =>
        have hb : b < a := by have := HJ2.out; omega
        have e1 : decide ((b : Int) < (a : Int)) = true := decide_eq_true (by omega)
        have e2 : decide (b < a) = true := decide_eq_true hb
        have y1 := (HS.out.box 0 rfl).cell 1 rfl
        have HNB := Aside0.mk (fun (h : sameCol next a b = true) => HNC.out (fun hs => by
         have := hs a HA.out b hb
         rw [h] at this
         cases this))
        have HST := Aside0.mk (show sameCol next a b = false → ∀ b', b' < b + 1 → sameCol next a b' = false from fun h b' hb' => (Nat.lt_or_ge b' b).elim (HI2.out b') (fun h2 => by
         have : b' = b := by omega
         rw [this]; exact h))
        obtain ⟨x, hx⟩ : ∃ x, x = sameCol next a b := ⟨_, rfl⟩
        have HX := Aside0.mk hx.symm
        rw [← hx] at HNB HST
        clear hx
        cases x
        case false =>
         have HI3 := Aside0.mk (HST.out rfl)
         go_wp2_with (first
          | (go_at_call 29; (with_reducible refine (alike14_calls _ _ next a b _ (HS.out.arg H1.out) (fun row hrow => by have := HW.out row hrow; have := HA.out; omega)).mono ?_); rintro ee w5 ⟨rfl, hb⟩; rw [HX.out]; have hs := HS.out.call hb; clear hb; clear HS; have HS := Aside0.mk hs; clear hs))
         go_roundg b1
         case measure => omega
         case rel => exact ⟨b + 1, by go_num, ⟨by have := HJ2.out; omega⟩, HI3, HS⟩
        case true =>
         have q0 : q = false := HNB.out rfl
         clear HQ HNC HNB
         subst q0
         go_wp2_with (first
          | (go_at_call 29; (with_reducible refine (alike14_calls _ _ next a b _ (HS.out.arg H1.out) (fun row hrow => by have := HW.out row hrow; have := HA.out; omega)).mono ?_); rintro ee w5 ⟨rfl, hb⟩; rw [HX.out]; have hs := HS.out.call hb; clear hb; clear HS; have HS := Aside0.mk hs; clear hs))
         go_ret
         exact ⟨rfl, HS.out.below⟩
   | succ k1 =>
    have hi : i < tags.length := by have := HJ.out; omega
    have hin : i < next.length := by rw [HL3.out]; exact hi
    have e1 : decide ((i : Int) < (tags.length : Int)) = true := decide_eq_true (by omega)
    have e2 : decide (i < tags.length) = true := decide_eq_true hi
    have hi0 : (0 : Int) ≤ (i : Int) := by omega
    have hi1 : (i : Int) < (tags.length : Int) := by omega
    have hi2 : (i : Int) < (next.length : Int) := by omega
    obtain ⟨an, cn', u, en, hu, yn0⟩ := H1.out.row i hin
    cases en
    obtain ⟨at_, ct', et, yt0⟩ := int_cell H2.out i hi
    cases et
    obtain ⟨Au, cu, rfl, _, _⟩ := hu.now
    have HU := Aside0.mk hu
    have HYN := Aside0.mk yn0
    have y0 := (HS.out.box 0 rfl).cell 1 rfl
    have y1 := (HS.out.box 0 rfl).cell 2 rfl
    have yn := pw_cell_below HS.out.below yn0
    have yt := pw_cell_below HS.out.below yt0
    have HROW := Aside0.mk (fun (h : TRow n next tags i) => (show (next.getD i []).length = n ∧ -1 ≤ tags.getD i 0 ∧ ∀ j, j < n → -1 ≤ (next.getD i []).getD j 0 ∧ (next.getD i []).getD j 0 < (tags.length : Int) from h))
    have HROW2 := Aside0.mk (fun (h : (next.getD i []).length = n ∧ -1 ≤ tags.getD i 0 ∧ ∀ j, j < n → -1 ≤ (next.getD i []).getD j 0 ∧ (next.getD i []).getD j 0 < (tags.length : Int)) => (show TRow n next tags i from h))
    have HNR := Aside0.mk (fun (h : ¬ TRow n next tags i) => HNO.out (fun hs => h (hs.2.1 i hi)))
    generalize next.getD i [] = row at *
    generalize tags.getD i 0 = tg at *
    clear hu yn0 yt0
    rcases Decidable.em (row.length = n ∧ -1 ≤ tg) with hr | hr
    case inr =>
     have q0 : q = false := HNR.out (fun h => hr ⟨(HROW.out h).1, (HROW.out h).2.1⟩)
     clear HQ HNO HNR HROW HROW2
     subst q0
     rcases Decidable.em (row.length = n) with h4 | h4
     case' inl =>
      have d4 : ((row.length : Int) == (n : Int)) = true := beq_iff_eq.mpr (by omega)
      have d4' : ((row.length : Int) != (n : Int)) = false := bne_eq_false_iff_eq.mpr (by omega)
      have d5 : decide (tg < -1) = true := decide_eq_true (by omega)
     case' inr =>
      have d4 : ((row.length : Int) == (n : Int)) = false := beq_eq_false_iff_ne.mpr (by omega)
      have d4' : ((row.length : Int) != (n : Int)) = true := bne_iff_ne.mpr (by omega)
     all_goals
      clear hr h4
      go_wp2_with fail
      go_ret
      exact ⟨rfl, HS.out.below⟩
    case inl =>
     obtain ⟨h4, h5⟩ := hr
     have d4 : ((row.length : Int) == (n : Int)) = true := beq_iff_eq.mpr (by omega)
     have d4' : ((row.length : Int) != (n : Int)) = false := bne_eq_false_iff_eq.mpr (by omega)
     have d5 : decide (tg < -1) = false := decide_eq_false (by omega)
     have HR4 := Aside0.mk (And.intro h4 h5)
     go_wp2_with fail
     clear d4 d4' d5 y0 y1 yn yt e1 e2 h4 h5
     go_loopg [6] n (fun m v6 w' => ∃ (j : Nat), v6 = .int .i64 j ∧ Aside0 (j + m = n) ∧ Aside0 (∀ j', j' < j → -1 ≤ row.getD j' 0 ∧ row.getD j' 0 < (tags.length : Int)) ∧ Aside0 (Sep X w w' [.box g0 31 [.slice Ac cl.length cc, .slice (some an) next.length cn, .slice (some at_) tags.length ct]]))
     case atStart => exact ⟨0, rfl, ⟨by omega⟩, ⟨fun j' h => by omega⟩, HS⟩
     case round =>
      clear HS
      obtain ⟨j, rfl, HJ2, HI2, HS⟩ := hrel
      have y0 := (HS.out.box 0 rfl).cell 1 rfl
      have yn := pw_cell_below HS.out.below HYN.out
      cases gk with
      | zero =>
       have e1 : decide ((j : Int) < (n : Int)) = false := decide_eq_false (by have := HJ2.out; omega)
       have e2 : decide (j < n) = false := decide_eq_false (by have := HJ2.out; omega)
       have HB := Aside0.mk (HROW2.out ⟨HR4.out.1, HR4.out.2, fun j' h => HI2.out j' (by have := HJ2.out; omega)⟩)
       go_wp2_with fail
       go_roundg k1
       case measure => omega
       case rel => exact ⟨i + 1, by go_num, ⟨by have := HJ.out; omega⟩, ⟨fun i' h => (Nat.lt_or_ge i' i).elim (HI.out i') (fun h2 => by
        have : i' = i := by omega
        rw [this]; exact HB.out)⟩, HS⟩
      | succ j1 =>
       have hj : j < n := by have := HJ2.out; omega
       have hjr : j < row.length := by have := HR4.out; omega
       have e1 : decide ((j : Int) < (n : Int)) = true := decide_eq_true (by omega)
       have e2 : decide (j < n) = true := decide_eq_true hj
       have hj0 : (0 : Int) ≤ (j : Int) := by omega
       have hj1 : (j : Int) < (row.length : Int) := by omega
       obtain ⟨ar, cr, er, yr0⟩ := int_cell HU.out j hjr
       cases er
       have yr := pw_cell_below HS.out.below yr0
       obtain ⟨x, hx⟩ : ∃ x, x = row.getD j 0 := ⟨_, rfl⟩
       rw [← hx] at yr
       have HX := Aside0.mk hx.symm
       clear yr0 hx
       rcases Decidable.em (-1 ≤ x ∧ x < (tags.length : Int)) with h6 | h6
       case inl =>
        have d6 : decide (x < -1) = false := decide_eq_false (by omega)
        have d7 : decide (x ≥ (tags.length : Int)) = false := decide_eq_false (by omega)
        have d8 : decide ((tags.length : Int) ≤ x) = false := decide_eq_false (by omega)
        have HI3 := Aside0.mk (show ∀ j', j' < j + 1 → -1 ≤ row.getD j' 0 ∧ row.getD j' 0 < (tags.length : Int) from fun j' h => (Nat.lt_or_ge j' j).elim (HI2.out j') (fun h2 => by
         have : j' = j := by omega
         rw [this, HX.out]; exact h6))
        go_wp2_with fail
        go_roundg j1
        case measure => omega
        case rel => exact ⟨j + 1, by go_num, ⟨by have := HJ2.out; omega⟩, HI3, HS⟩
       case inr =>
        have q0 : q = false := HNR.out (fun h => h6 (by have := (HROW.out h).2.2 j hj; rwa [HX.out] at this))
        clear HQ HNO HNR HROW HROW2
        subst q0
        rcases Decidable.em (x < -1) with h7 | h7
        case' inl => have d6 : decide (x < -1) = true := decide_eq_true h7
        case' inr =>
         have d6 : decide (x < -1) = false := decide_eq_false h7
         have d7 : decide (x ≥ (tags.length : Int)) = true := decide_eq_true (by omega)
         have d8 : decide ((tags.length : Int) ≤ x) = true := decide_eq_true (by omega)
        all_goals
         clear h6 h7
         go_wp2_with fail
         go_ret
         exact ⟨rfl, HS.out.below⟩
end Go.Proofs.YtfbfeimildkigaaDoor.P
namespace Go.Proofs.YtfbfeimildkigaaDoor.P
open Go Go.RowKit Go.Proofs.YtfbfeimildkigaaDoorW.PrintWords Go.Proofs.YtfbfeimildkigaaDoorW.PrintLast Go.Proofs.YtfbfeimildkigaaDoorW.PrintMore Go.Proofs.YtfbfeimildkigaaDoor.PX
set_option linter.unusedVariables false
set_option linter.unusedSimpArgs false
set_option maxRecDepth 100000
theorem sameCol_comm (next : List (List Int)) (a b : Nat) : sameCol next a b = sameCol next b a := by
 have h : sameCol next a b = true ↔ sameCol next b a = true := by
  rw [sameCol_iff, sameCol_iff]
  exact ⟨fun h i hi => (h i hi).symm, fun h i hi => (h i hi).symm⟩
 cases h1 : sameCol next a b <;> cases h2 : sameCol next b a <;> simp_all
theorem row_cellk {k : IntKind} {X : Nat → Prop} {w0 w : World} {L : List PX.Item} {g e : Nat} {c : Nat} {xs : List Int} {x : Int} (h : PX.Sep X w0 w L) (n : Nat) (hn : L[n]? = some (.row (Kd.int k) e (.slice (some ⟨g, 0, none⟩) xs.length c) xs)) (i : Nat) (hi : i < xs.length) (hx : xs.getD i 0 = x) : w.cell? ⟨g, i, none⟩ = some (.int k x) := by
 obtain ⟨g', c', e', y, _⟩ := h.int n hn i hi
 cases e'
 rw [hx] at y
 exact y
def shortRow (fi row : List Int) : List Int := fi.map (fun f => row.getD f.toNat 0)
def of14 (next : List (List Int)) (tags : List Int) : (List Int × List (List Int) × List Int) × Int :=
 if BSound next tags then (((classesL next).2, next.map (shortRow (classesL next).1), tags), 0) else (([], [], []), 1)
end Go.Proofs.YtfbfeimildkigaaDoor.P
namespace Go.Proofs.YtfbfeimildkigaaDoor.P
open Go Go.RowKit Go.Proofs.YtfbfeimildkigaaDoorW.PrintWords Go.Proofs.YtfbfeimildkigaaDoor.PX
set_option linter.unusedVariables false
set_option linter.unusedSimpArgs false
set_option maxHeartbeats 2000000
theorem sameCol_self (next : List (List Int)) (a : Nat) : sameCol next a a = true := by rw [sameCol_iff]; intros; rfl
theorem col_some (next : List (List Int)) (c : Nat) : ∀ (l : List Int) (k : Nat), 0 ≤ colGo next c l k → (k : Int) ≤ colGo next c l k ∧ sameCol next c (l.getD ((colGo next c l k).toNat - k) 0).toNat = true
 | [], k, h => by rw [colGo] at h; omega
 | f :: t, k, h => by
  rw [colGo] at h ⊢
  split
  ·next hs =>
   refine ⟨Int.le_refl _, ?_⟩
   rw [show ((k : Int).toNat - k) = 0 by omega]
   exact hs
  ·next hs =>
   rw [if_neg hs] at h
   obtain ⟨h1, h2⟩ := col_some next c t (k + 1) h
   refine ⟨by omega, ?_⟩
   rw [show (colGo next c t (k + 1)).toNat - k = ((colGo next c t (k + 1)).toNat - (k + 1)) + 1 by omega, List.getD_cons_succ]
   exact h2
theorem col_none (next : List (List Int)) (c : Nat) : ∀ (l : List Int) (k : Nat), colGo next c l k < 0 → ∀ f ∈ l, sameCol next c f.toNat = false
 | [], k, h, f, hf => by cases hf
 | g :: t, k, h, f, hf => by
  rw [colGo] at h
  split at h
  ·omega
  ·next hs =>
   rcases List.mem_cons.1 hf with rfl | hf
   ·simpa using hs
   ·exact col_none next c t (k + 1) h f hf
theorem manyGo_snoc (x : Int) : ∀ (l : List Int) (n m : Int), 0 ≤ n → 0 ≤ m → manyGo l n = m → x ≤ m → manyGo (l ++ [x]) n = max m (x + 1)
 | [], n, m, _, _, h, hx => by
  rw [manyGo] at h
  subst h
  rw [List.nil_append, manyGo, if_neg (by omega), manyGo]
 | c :: t, n, m, h0, h1, h, hx => by
  rw [manyGo] at h
  rw [List.cons_append, manyGo]
  split at h
  ·omega
  ·next hc =>
   rw [if_neg hc]
   exact manyGo_snoc x t _ m (by omega) h1 h hx
structure ClIn (next : List (List Int)) (c : Nat) (p : List Int × List Int) : Prop where
 of_ : ∀ i, i < c → 0 ≤ p.2.getD i 0 ∧ p.2.getD i 0 < (p.1.length : Int) ∧ sameCol next i (p.1.getD (p.2.getD i 0).toNat 0).toNat = true
 len : p.2.length = c
 ne : ∀ j k, j < k → k < p.1.length → sameCol next (p.1.getD j 0).toNat (p.1.getD k 0).toNat = false
 many : manyGo p.2 0 = (p.1.length : Int)
theorem getD_app {l : List Int} {x : Int} {i : Nat} (h : i < l.length) : (l ++ [x]).getD i 0 = l.getD i 0 := by
 rw [List.getD_eq_getElem?_getD, List.getElem?_append_left h, ← List.getD_eq_getElem?_getD]
theorem getD_app_last (l : List Int) (x : Int) (i : Nat) (h : i = l.length) : (l ++ [x]).getD i 0 = x := by subst h; simp
theorem ClIn.step {next : List (List Int)} {c : Nat} {p : List Int × List Int} (h : ClIn next c p) : ClIn next (c + 1) (clStep next c p) := by
 have hl := colGo_lt next c p.1 0
 unfold clStep
 by_cases hc : colGo next c p.1 0 < 0
 ·rw [if_pos hc]
  have hn := col_none next c p.1 0 hc
  refine ⟨fun i hi => ?_, by simp [h.len], fun j k hj hk => ?_, ?_⟩
  ·dsimp only
   rw [List.length_append, List.length_singleton]
   by_cases e : i < c
   ·have h1 := h.of_ i e
    rw [getD_app (by rw [h.len]; exact e), getD_app (by omega)]
    exact ⟨h1.1, by omega, h1.2.2⟩
   ·obtain rfl : i = c := by omega
    rw [getD_app_last _ _ _ h.len.symm]
    refine ⟨by omega, by omega, ?_⟩
    rw [getD_app_last _ _ _ (by omega)]
    exact sameCol_self next _
  ·dsimp only at hk ⊢
   rw [List.length_append, List.length_singleton] at hk
   by_cases e : k < p.1.length
   ·rw [getD_app e, getD_app (by omega)]
    exact h.ne j k hj e
   ·rw [getD_app_last p.1 _ k (by omega), getD_app (by omega), sameCol_comm]
    exact hn _ (mem_getD p.1 0 j (by omega))
  ·dsimp only
   rw [manyGo_snoc _ p.2 0 _ (by omega) (by omega) h.many (Int.le_refl _), List.length_append, List.length_singleton]
   omega
 ·rw [if_neg hc]
  have hs := col_some next c p.1 0 (by omega)
  refine ⟨fun i hi => ?_, by simp [h.len], h.ne, ?_⟩
  ·dsimp only
   by_cases e : i < c
   ·rw [getD_app (by rw [h.len]; exact e)]
    exact h.of_ i e
   ·obtain rfl : i = c := by omega
    rw [getD_app_last _ _ _ h.len.symm]
    refine ⟨by omega, by omega, ?_⟩
    have := hs.2
    rw [Nat.sub_zero] at this
    exact this
  ·dsimp only
   rw [manyGo_snoc _ p.2 0 _ (by omega) (by omega) h.many (by omega)]
   omega
theorem ClIn.go (next : List (List Int)) : ∀ (m c : Nat) (p : List Int × List Int), ClIn next c p → ClIn next (c + m) (clGo next m c p)
 | 0, c, p, hp => hp
 | m + 1, c, p, hp => by
  have := ClIn.go next m (c + 1) _ hp.step
  rw [show c + (m + 1) = c + 1 + m by omega]
  exact this
theorem classes_in (next : List (List Int)) : ClIn next 256 (classesL next) := by
 have := ClIn.go next 256 0 ([], []) ⟨fun i hi => (by omega), rfl, fun j k _ hk => (by simp at hk), rfl⟩
 rw [Nat.zero_add] at this
 exact this
theorem classes_u8 (next : List (List Int)) : U8s (classesL next).2 := by
 have h := classes_ok next
 generalize classesL next = p at *
 intro c hc
 have h1 := h.of_.2 c hc
 have h2 := h.len
 omega
end Go.Proofs.YtfbfeimildkigaaDoor.P
namespace Go.Proofs.YtfbfeimildkigaaDoor.P
open Go Go.RowKit Go.Proofs.YtfbfeimildkigaaDoorW.PrintWords Go.Proofs.YtfbfeimildkigaaDoorW.PrintLast Go.Proofs.YtfbfeimildkigaaDoorW.PrintMore Go.Proofs.YtfbfeimildkigaaDoor.PX
set_option linter.unusedVariables false
set_option linter.unusedSimpArgs false
set_option maxRecDepth 100000
theorem PV.form2 {α : Type} {d : Kd α} {X : Nat → Prop} {w : World} {v : Value} {xs : List α} (h : PV d X w v xs) : ∃ A c, v = .slice A xs.length c := by
 obtain ⟨A, c, e, _⟩ := h
 exact ⟨A, c, e⟩
theorem of13_K (parts : List (List Sp)) (next : List (List Int)) (tags : List Int) (h15 : parts.length ≤ 15) (h9 : tags.length ≤ 9) (hp : SoundP parts next tags → ∀ p ∈ (leastL parts next tags).parts, PartP p) :
  ∃ K, SoundP parts next tags → ¬ longD (leastL parts next tags) → Of13Ok (leastL parts next tags) 40000 K := by
 by_cases h : SoundP parts next tags ∧ ¬ longD (leastL parts next tags)
 ·obtain ⟨⟨K, hK⟩, _⟩ := of13_good parts next tags h.1 h.2 h15 h9 (hp h.1)
  exact ⟨K, fun _ _ => hK⟩
 ·exact ⟨fun _ => True, fun a b => absurd ⟨a, b⟩ h⟩
theorem of13_sound (parts : List (List Sp)) (next : List (List Int)) (tags : List Int) (h15 : parts.length ≤ 15) (h9 : tags.length ≤ 9) (hp : SoundP parts next tags → ∀ p ∈ (leastL parts next tags).parts, PartP p) (h : (of13 40000 parts next tags).2 = 0) : BSound (of13 40000 parts next tags).1.1 (of13 40000 parts next tags).1.2 := by
 unfold of13 at h ⊢
 by_cases h1 : SoundP parts next tags
 ·rw [if_pos h1] at h ⊢
  by_cases h2 : longD (leastL parts next tags)
  ·rw [if_pos h2] at h; cases h
  ·rw [if_neg h2]
   exact (of13_good parts next tags h1 h2 h15 h9 (hp h1)).2
 ·rw [if_neg h1] at h; cases h
theorem of13_err (B : Nat) (parts : List (List Sp)) (next : List (List Int)) (tags : List Int) : (of13 B parts next tags).2 = 0 ∨ (of13 B parts next tags).2 = 1 ∨ (of13 B parts next tags).2 = 63 := by
 unfold of13
 split
 ·split
  ·exact .inr (.inr rfl)
  ·exact .inl rfl
 ·exact .inr (.inl rfl)
theorem dfa_tags (c : List (List Int)) (k : Int) (next tags : List Int) (hk : 0 ≤ k ∧ k < 256) : (dfa11 c k next tags).tags.length ≤ 9 := by
 show ((List.range (1 + k % 9).toNat).map (tag11 tags)).length ≤ 9
 rw [List.length_map, List.length_range]
 omega
theorem none_sound : SoundP [] [[]] [-1] := by decide +kernel
theorem none_parts : ∀ p ∈ (leastL [] [[]] [-1]).parts, PartP p := by
 have h := (least_parts [] [[]] [-1]).2
 have h2 : (bareP ([] : List (List Sp))).length = 0 := rfl
 intro p hp
 have h3 := List.length_pos_of_mem hp
 omega
theorem none_uni : UniOk (bareP ([] : List (List Sp))) := by
 intro g h1 h2 h3
 have h4 : (bareP ([] : List (List Sp))).length = 0 := rfl
 omega
theorem none_long : ¬ longD (leastL [] [[]] [-1]) := by
 have hok := sound_ok12 none_sound
 have hlr := least_rows [] [[]] [-1]
 have hle := least_le [] [[]] [-1] hok rfl (by decide)
 have h := (least_parts [] [[]] [-1]).2
 have h2 : (bareP ([] : List (List Sp))).length = 0 := rfl
 generalize leastL [] [[]] [-1] = d at *
 unfold longD
 have h3 : d.parts.length = 0 := by omega
 rw [List.length_eq_zero_iff.1 h3]
 have h4 : d.next.length ≤ 1 := hle.1
 show ¬ (100 < d.tags.length ∨ 100 < 0)
 omega
def b14 (c : List (List Int)) (k : Int) (next tags : List Int) : List (List Int) × List Int :=
 if (of13 40000 (dfa11 c k next tags).parts (dfa11 c k next tags).next (dfa11 c k next tags).tags).2 = 0 then (of13 40000 (dfa11 c k next tags).parts (dfa11 c k next tags).next (dfa11 c k next tags).tags).1 else (of13 40000 [] [[]] [-1]).1
theorem none_of : (of13 40000 [] [[]] [-1]).2 = 0 := by
 unfold of13
 rw [if_pos none_sound, if_neg none_long]
theorem b14_sound (c : List (List Int)) (k : Int) (next tags : List Int) (hk : 0 ≤ k ∧ k < 256) : BSound (b14 c k next tags).1 (b14 c k next tags).2 := by
 have h9 := dfa_tags c k next tags hk
 have h15 := (dfa_parts c k next tags).2
 have hp := fun hs => (dfa_uni c k next tags hs).2.1
 unfold b14
 generalize dfa11 c k next tags = d at *
 split
 ·next h => exact of13_sound d.parts d.next d.tags h15 h9 hp h
 ·exact of13_sound [] [[]] [-1] (by decide) (by decide) (fun _ => none_parts) none_of
set_option maxHeartbeats 16000000 in
theorem bytes14_calls (X : Nat → Prop) (v0 v2 v3 : Value) (c : List (List Int)) (k : Int) (next tags : List Int) (w : World) (hX : ∀ k, X k → k < w.heap.size) (h0 : PV kU16s X w v0 c) (h2 : PV (Kd.int .i8) X w v2 next) (h3 : PV (Kd.int .i8) X w v3 tags)
  (hc : ∀ l ∈ c, ∀ x ∈ l, 0 ≤ x ∧ x < 65536) (hk : 0 ≤ k ∧ k < 256) (hn : ∀ x ∈ next, -128 ≤ x ∧ x ≤ 127) (ht : ∀ x ∈ tags, -128 ≤ x ∧ x ≤ 127) :
  Calls Tryd.prog 8 #[v0, .int .u8 k, v2, v3] w fun e w' => ∃ vn vt, e = .returned (.agg #[vn, vt]) ∧ PV kRow X w' vn (b14 c k next tags).1 ∧ PV kInt X w' vt (b14 c k next tags).2 ∧ Below w.heap.size w w' := by
 have H0 := Aside0.mk h0
 have H2 := Aside0.mk h2
 have H3 := Aside0.mk h3
 have HC := Aside0.mk hc
 have HK := Aside0.mk hk
 have HRN := Aside0.mk hn
 have HRT := Aside0.mk ht
 have HP := Aside0.mk (dfa_parts c k next tags)
 have HU := Aside0.mk (fun hs => dfa_uni c k next tags hs)
 obtain ⟨K, hK⟩ := of13_K (dfa11 c k next tags).parts (dfa11 c k next tags).next (dfa11 c k next tags).tags (dfa_parts c k next tags).2 (dfa_tags c k next tags hk) (fun hs => (dfa_uni c k next tags hs).2.1)
 have HOK := Aside0.mk hK
 obtain ⟨K2, hK2⟩ := of13_K [] [[]] [-1] (by decide) (by decide) (fun _ => none_parts)
 have HOK2 := Aside0.mk hK2
 have HS := Aside0.mk ((Sep.start hX).push_box [.slice none 0 0, .slice none 0 0] 27)
 obtain ⟨g0, hg0⟩ : ∃ g, g = w.heap.size := ⟨_, rfl⟩
 obtain ⟨res, hres⟩ : ∃ r, r = b14 c k next tags := ⟨_, rfl⟩
 rw [← hres]
 obtain ⟨⟨⟨rn, rt⟩, re⟩, hr⟩ : ∃ r, r = of13 40000 (dfa11 c k next tags).parts (dfa11 c k next tags).next (dfa11 c k next tags).tags := ⟨_, rfl⟩
 have HR := Aside0.mk hr.symm
 have HRE := Aside0.mk (show re = 0 ∨ re = 1 ∨ re = 63 by have := of13_err 40000 (dfa11 c k next tags).parts (dfa11 c k next tags).next (dfa11 c k next tags).tags; rw [← hr] at this; exact this)
 have HRES := Aside0.mk (show res = if re = 0 then (rn, rt) else (of13 40000 [] [[]] [-1]).1 by rw [hres, b14, ← hr])
 obtain ⟨⟨⟨sn, st⟩, se⟩, hs2⟩ : ∃ r, r = of13 40000 [] [[]] [-1] := ⟨_, rfl⟩
 have HR2 := Aside0.mk hs2.symm
 rw [← hs2] at HRES
 clear h0 h2 h3 hc hn ht hX hK hK2 hr hres hs2
 go_enter Tryd.func8, Tryd.ntmps8
 go_upto_if 21 with (first
  | (go_at_call 24; (with_reducible refine (dfa11_calls _ _ _ _ c k next tags _ HS.out.lt (HS.out.arg H0.out) (HS.out.arg H2.out) (HS.out.arg H3.out) HC.out HK.out HRN.out HRT.out).mono ?_); rintro ee w5 ⟨vp, vn, vt, rfl, h0, h1, h2, hb⟩; have hs := ((HS.out.push_ro hb h0).push_ro (Below.refl _ _) (h1.to (fun _ _ h => Ys_ro h))).push_ro (Below.refl _ _) (h2.to (fun _ _ h => Ys_ro (Ys_ro h))); simp only [List.nil_append, List.cons_append] at hs; clear h0 h1 h2 hb; clear HS; have HS := Aside0.mk hs; clear hs)
  | (go_at_call 23; (with_reducible refine (of13_calls _ _ _ _ _ _ _ _ HS.out.lt (HS.out.ro 1 rfl) (HS.out.ro 2 rfl) (HS.out.ro 3 rfl) (fun p hp => ⟨(HP.out.1.sm hp).1, by have := (HP.out.1.sm hp).2; omega⟩) (fun hs => ⟨(HU.out hs).1, (HU.out hs).2.1, by have := (HU.out hs).2.2; omega⟩) 40000 (by decide) K HOK.out).mono ?_); rintro ee w6 ⟨v0, v1, rfl, h0, h1, hb⟩; rw [HR.out] at h0 h1 ⊢; obtain ⟨A6, c6, e6⟩ := PV.form2 h0; subst e6; obtain ⟨A7, c7, e7⟩ := PV.form2 h1; subst e7; have hgw := Nat.lt_of_lt_of_le (HS.out.box 0 rfl).lt hb.size; have hs := ((HS.out.push_ro hb h0).push_ro (Below.refl _ _) (h1.to (fun _ _ h => Ys_ro h))).push_box [.slice A6 rn.length c6, .slice A7 rt.length c7] 27; simp only [List.nil_append, List.cons_append] at hs; clear h0 h1 hb; clear HS; have HS := Aside0.mk hs; clear hs))
 obtain ⟨g1, hg1⟩ : ∃ g, g = w6.heap.size := ⟨_, rfl⟩
 rw [← hg0, ← hg1] at HS ⊢
 have hgg : g0 ≠ g1 := by omega
 have hgg' : g1 ≠ g0 := by omega
 clear hg0 hg1 hgw
 have x0 := ((HS.out.box 6 rfl).cell 0 rfl)
 have x1 := ((HS.out.box 6 rfl).cell 1 rfl)
 have z0 := ((HS.out.box 0 rfl).cell 0 rfl)
 have z1 := ((HS.out.box 0 rfl).cell 1 rfl)
 have f0 := (HS.out.box 0 rfl).open_ 0
 have f1 := (HS.out.box 0 rfl).open_ 1
 rcases HRE.out with rfl | hne
 case inl =>
  have HE := Aside0.mk (show res = (rn, rt) by rw [HRES.out, if_pos rfl])
  clear HRES HRE
  go_wp2_with fail
  have HSF := Aside0.mk ((HS.out.set_box 0 rfl 0 (.slice A6 rn.length c6)).set_box 0 rfl 1 (.slice A7 rt.length c7))
  refine bodyPost_ret (results_cell_row rfl _ _ g0 27 #[.slice A6 rn.length c6, .slice A7 rt.length c7] (0, 0) _ rfl (HSF.out.box 0 rfl) Tryd.underlying27 rfl (by kernel_rfl)) rfl ?_
  rw [HE.out]
  exact ⟨_, _, rfl, HSF.out.res 4 rfl, HSF.out.res 5 rfl, HSF.out.below⟩
 case inr =>
  have HE := Aside0.mk (show res = (sn, st) by rw [HRES.out, if_neg (by omega)])
  have h0 : (re != 0) = true := by simp; omega
  clear HRES HRE hne x0 x1 z0 z1 f0 f1
  rw [h0]
  clear h0
  go_wp2_with (first
   | ((with_reducible refine gate_dst (N := 23) rfl ?_); refine slit kRow 25 ?hg (N := 23) ?hd (xs := [([] : List Int)]) (inner := [.slice none 0 0]) ?hr HS.out ?hp (by simp) ?_; (case hd => rfl); (case hg => rfl); (case hr => first | (go_simp; done) | (go_simp; rfl)); (case hp => exact Reps.one (PK.slice (PV.nil _ _ _)) (Reps.none _ _)); clear HS; intro v30 w30 hs; simp only [List.nil_append, List.cons_append] at hs; obtain ⟨B0, d0, e0⟩ := hs.rform 7 rfl; subst e0; have HS := Aside0.mk hs; clear hs)
   | ((with_reducible refine gate_dst (N := 24) rfl ?_); refine slit kInt 3 ?hg (N := 24) ?hd (xs := [(-1 : Int)]) (inner := [.int .i64 (-1)]) ?hr HS.out ?hp (by simp) ?_; (case hd => rfl); (case hg => rfl); (case hr => first | (go_simp; done) | (go_simp; rfl)); (case hp => exact Reps.one (PK.scalar _) (Reps.none _ _)); clear HS; intro v31 w31 hs; simp only [List.nil_append, List.cons_append] at hs; obtain ⟨B1, d1, e1⟩ := hs.rform 8 rfl; subst e1; have HS := Aside0.mk hs; clear hs)
   | (go_at_call 23; (refine (of13_calls _ _ _ _ [] [[]] [-1] _ HS.out.lt (PV.nil _ _ _) (HS.out.ro 7 rfl) (HS.out.ro 8 rfl) (fun p hp => by cases hp) (fun hs => ⟨none_uni, none_parts, by have h1 := (least_parts [] [[]] [-1]).2; have h2 : (bareP ([] : List (List Sp))).length = 0 := rfl; omega⟩) 40000 (by decide) K2 HOK2.out).mono ?_); rintro ee w7 ⟨v0, v1, rfl, h0, h1, hb⟩; rw [HR2.out] at h0 h1 ⊢; obtain ⟨A8, c8, e8⟩ := PV.form2 h0; subst e8; obtain ⟨A9, c9, e9⟩ := PV.form2 h1; subst e9; have hs := ((HS.out.push_ro hb h0).push_ro (Below.refl _ _) (h1.to (fun _ _ h => Ys_ro h))); simp only [List.nil_append, List.cons_append] at hs; clear h0 h1 hb; have y0 := (hs.box 6 rfl).open_ 0; have y1 := (hs.box 6 rfl).open_ 1; have x0 := (hs.box 6 rfl).cell 0 rfl; have x1 := (hs.box 6 rfl).cell 1 rfl; have z0 := (hs.box 0 rfl).cell 0 rfl; have z1 := (hs.box 0 rfl).cell 1 rfl; have f0 := (hs.box 0 rfl).open_ 0; have f1 := (hs.box 0 rfl).open_ 1; clear HS; have HS := Aside0.mk hs; clear hs))
  have HSF := Aside0.mk ((((HS.out.set_box 6 rfl 0 (.slice A8 sn.length c8)).set_box 6 rfl 1 (.slice A9 st.length c9)).set_box 0 rfl 0 (.slice A8 sn.length c8)).set_box 0 rfl 1 (.slice A9 st.length c9))
  refine bodyPost_ret (results_cell_row rfl _ _ g0 27 #[.slice A8 sn.length c8, .slice A9 st.length c9] (0, 0) _ rfl (HSF.out.box 0 rfl) Tryd.underlying27 rfl (by kernel_rfl)) rfl ?_
  rw [HE.out]
  exact ⟨_, _, rfl, HSF.out.res 9 rfl, HSF.out.res 10 rfl, HSF.out.below⟩
end Go.Proofs.YtfbfeimildkigaaDoor.P
namespace Go.Proofs.YtfbfeimildkigaaDoor.P
open Go Go.RowKit Go.Proofs.YtfbfeimildkigaaDoorW.PrintWords Go.Proofs.YtfbfeimildkigaaDoorW.PrintLast Go.Proofs.YtfbfeimildkigaaDoorW.PrintMore Go.Proofs.YtfbfeimildkigaaDoor.PX
set_option linter.unusedVariables false
set_option linter.unusedSimpArgs false
set_option maxRecDepth 100000
def Pred (g : Nat) (lb : Array Value) (p : Int → Bool) (w : World) : Prop := ∀ (W : World) (x : Int), Below w.heap.size w W → Calls Tryd.prog g (#[.int .i64 x] ++ lb) W fun e w' => e = .returned (.bool (p x)) ∧ Below W.heap.size W w'
def idxGo (p : Int → Bool) : List Int → Nat → Int
 | [], _ => -1
 | x :: t, i => if p x then (i : Int) else idxGo p t (i + 1)
theorem idxGo_any (p : Int → Bool) : ∀ (l : List Int) (i : Nat), l.any p = decide (0 ≤ idxGo p l i)
 | [], i => by simp [idxGo]
 | x :: t, i => by
  rw [List.any_cons, idxGo]
  cases h : p x
  ·simp only [Bool.false_or, Bool.false_eq_true, if_false]
   exact idxGo_any p t (i + 1)
  ·simp
set_option maxHeartbeats 8000000 in
theorem indexFunc_calls (X : Nat → Prop) (v : Value) (xs : List Int) (w : World) (hv : PV kInt X w v xs) (g : Nat) (lb : Array Value) (eg : ∀ args w, (callFunc g args).run Tryd.prog w = .ok (.enter g args) w) (p : Int → Bool) (hp : Pred g lb p w) :
  Calls Tryd.prog 43 #[v, .func (.func g) #[] lb] w fun e w' => e = .returned (.int .i64 (idxGo p xs 0)) ∧ Below w.heap.size w w' := by
 have H1 := Aside0.mk hv
 have HP := Aside0.mk hp
 have m1 := hv.max
 obtain ⟨A0, c0, rfl, _, _⟩ := hv.now
 obtain ⟨q, hq⟩ : ∃ q, q = idxGo p xs 0 := ⟨_, rfl⟩
 rw [← hq]
 have HQ := Aside0.mk (show idxGo p (xs.drop 0) 0 = q from hq.symm)
 clear hv hp hq
 go_enter Tryd.func43, Tryd.ntmps43
 go_wp2_with fail
 go_loopg [5, 8] xs.length (fun m v5 v8 w' => ∃ (i : Nat), v8 = .int .i64 i ∧ Aside0 (i + m = xs.length) ∧ Aside0 (idxGo p (xs.drop i) i = q) ∧ Aside0 (Below w.heap.size w w'))
 case atStart => exact ⟨0, rfl, ⟨by omega⟩, HQ, ⟨Below.refl _ _⟩⟩
 case round =>
  clear HQ
  obtain ⟨i, rfl, HJ, HQ, HB⟩ := hrel
  cases gk with
  | zero =>
   have hi : i = xs.length := by have := HJ.out; omega
   have e1 : decide ((i : Int) < (xs.length : Int)) = false := decide_eq_false (by omega)
   have e2 : decide (i < xs.length) = false := decide_eq_false (by omega)
   have q0 : (-1 : Int) = q := by have h := HQ.out; rwa [hi, List.drop_length, idxGo] at h
   clear HQ hi
   subst q0
   go_wp2_with fail
   go_ret
   exact ⟨rfl, HB.out⟩
  | succ k1 =>
   have hi : i < xs.length := by have := HJ.out; omega
   have e1 : decide ((i : Int) < (xs.length : Int)) = true := decide_eq_true (by omega)
   have e2 : decide (i < xs.length) = true := decide_eq_true hi
   have hi0 : (0 : Int) ≤ (i : Int) := by omega
   have hi1 : (i : Int) < (xs.length : Int) := by omega
   obtain ⟨ad, c, e, y0⟩ := int_cell H1.out i hi
   cases e
   have y := pw_cell_below HB.out y0
   have h := HQ.out
   rw [drop_at xs 0 i hi, idxGo] at h
   generalize xs.getD i 0 = x at *
   have hcall := HP.out _ x HB.out
   clear y0 HQ
   cases hpx : p x
   case true =>
    rw [hpx, if_pos rfl] at h
    subst h
    rw [hpx] at hcall
    have HCALL := Aside0.mk hcall
    clear hcall
    go_wp2_with fail
    refine HCALL.out.mono ?_
    rintro e w' ⟨rfl, hb'⟩
    go_wp2_with fail
    go_ret
    exact ⟨rfl, below_step HB.out hb'⟩
   case false =>
    rw [hpx, if_neg (by decide)] at h
    rw [hpx] at hcall
    have HCALL := Aside0.mk hcall
    have HQ := Aside0.mk h
    clear hcall h
    go_wp2_with fail
    refine HCALL.out.mono ?_
    rintro e w' ⟨rfl, hb'⟩
    go_wp2_with fail
    go_roundg k1
    case measure => omega
    case rel => exact ⟨i + 1, by go_num, ⟨by have := HJ.out; omega⟩, HQ, ⟨below_step HB.out hb'⟩⟩
theorem containsFunc_calls (X : Nat → Prop) (v : Value) (xs : List Int) (w : World) (hv : PV kInt X w v xs) (g : Nat) (lb : Array Value) (eg : ∀ args w, (callFunc g args).run Tryd.prog w = .ok (.enter g args) w) (p : Int → Bool) (hp : Pred g lb p w) :
  Calls Tryd.prog 32 #[v, .func (.func g) #[] lb] w fun e w' => e = .returned (.bool (xs.any p)) ∧ Below w.heap.size w w' := by
 rw [idxGo_any p xs 0]
 have H1 := Aside0.mk hv
 have HP := Aside0.mk hp
 obtain ⟨A0, c0, rfl, _, _⟩ := hv.now
 clear hv hp
 go_enter Tryd.func32, Tryd.ntmps32
 go_wp2_with (first
  | (go_at_call 43; (with_reducible refine (indexFunc_calls X _ xs w H1.out g lb eg p HP.out).mono ?_); rintro ee w5 ⟨rfl, hb⟩))
 go_ret
 exact ⟨rfl, hb⟩
def oddB (k : Nat) (x : Int) : Bool := decide (x < -1) || decide ((k : Int) ≤ x)
theorem odd14_pred (k B : Nat) (w : World) (hB : B < w.heap.size) (hc : w.cell? ⟨B, 0, none⟩ = some (.int .i64 k)) : Pred 31 #[.pointer (some ⟨B, 0, none⟩)] (oddB k) w := fun W x hb => by
 have hc : W.cell? ⟨B, 0, none⟩ = some (.int .i64 k) := (hb.cell (p := ⟨B, 0, none⟩) hB).trans hc
 show Calls Tryd.prog 31 #[.int .i64 x, .pointer (some ⟨B, 0, none⟩)] W _
 unfold oddB
 go_enter Tryd.func31, Tryd.ntmps31
 go_wp2
 all_goals (go_ret; refine ⟨by simp_all, Below.refl _ _⟩)
theorem odd13_pred (k B : Nat) (w : World) (hB : B < w.heap.size) (hc : w.cell? ⟨B, 0, none⟩ = some (.int .i64 k)) : Pred 41 #[.pointer (some ⟨B, 0, none⟩)] (oddB k) w := fun W x hb => by
 have hc : W.cell? ⟨B, 0, none⟩ = some (.int .i64 k) := (hb.cell (p := ⟨B, 0, none⟩) hB).trans hc
 show Calls Tryd.prog 41 #[.int .i64 x, .pointer (some ⟨B, 0, none⟩)] W _
 unfold oddB
 go_enter Tryd.func41, Tryd.ntmps41
 go_wp2
 all_goals (go_ret; refine ⟨by simp_all, Below.refl _ _⟩)
end Go.Proofs.YtfbfeimildkigaaDoor.P
