/- Part 23 of the proof: T05, IT, T01, T02, T03, T07a, T08a. -/
import Derived.Lib.SliceRun
import Derived.Shelf.Abstract
import Derived.Test.YtfbfeimildkigaaDoorCb22
namespace Go.Proofs.YtfbfeimildkigaaDoor.P
open Go Go.RowKit Go.Proofs.YtfbfeimildkigaaDoorW.PrintWords Go.Proofs.YtfbfeimildkigaaDoorW.PrintLast Go.Proofs.YtfbfeimildkigaaDoorW.PrintMore Go.Proofs.YtfbfeimildkigaaDoor.PX
set_option linter.unusedVariables false
set_option linter.unusedSimpArgs false
set_option maxRecDepth 100000
theorem any_odd (k : Nat) (row : List Int) : row.any (oddB k) = false ↔ ∀ j, j < row.length → -1 ≤ row.getD j 0 ∧ row.getD j 0 < (k : Int) := by
 rw [List.any_eq_false]
 constructor
 ·intro h j hj
  have h1 := h _ (mem_getD row 0 j hj)
  simp only [oddB, Bool.or_eq_true, decide_eq_true_eq, not_or] at h1
  omega
 ·intro h x hx
  obtain ⟨j, hj, rfl⟩ := List.getElem_of_mem hx
  have h1 := h j hj
  rw [List.getD_eq_getElem?_getD, List.getElem?_eq_getElem hj] at h1
  simp only [Option.getD_some] at h1
  simp only [oddB, Bool.or_eq_true, decide_eq_true_eq, not_or]
  omega
set_option maxHeartbeats 16000000 in
theorem lsound_calls (X : Nat → Prop) (vn vt : Value) (next : List (List Int)) (tags : List Int) (w : World) (hX : ∀ k, X k → k < w.heap.size) (hn : PV kRow X w vn next) (ht : PV kInt X w vt tags) :
  Calls Tryd.prog 25 #[.agg #[vn, vt]] w fun e w' => e = .returned (.bool (decide (BSound next tags))) ∧ Below w.heap.size w w' := by
 have H1 := Aside0.mk hn
 have H2 := Aside0.mk ht
 have m1 := hn.max
 have m2 := ht.max
 obtain ⟨An, cn, rfl, _, _⟩ := hn.now
 obtain ⟨At, ct, rfl, _, _⟩ := ht.now
 have HS := Aside0.mk (((Sep.start hX).push_box [.slice An next.length cn, .slice At tags.length ct] 27).push_box' [.int .i64 tags.length] 3 (w.heap.size + 1) (by simp))
 have yk := (HS.out.box 1 rfl).cell 0 rfl
 obtain ⟨q, hq⟩ : ∃ q, q = decide (BSound next tags) := ⟨_, rfl⟩
 rw [← hq]
 have HQ := Aside0.mk (show q = true ↔ BSound next tags by rw [hq]; exact decide_eq_true_iff)
 clear hn ht hX hq
 have no : ¬ BSound next tags → q = false := fun h => by
  cases hqq : q
  ·rfl
  ·exact absurd (HQ.out.1 hqq) h
 have HNO := Aside0.mk no
 clear no
 by_cases hh : BHead next tags
 case neg =>
  have q0 : q = false := HNO.out (fun h => hh h.1)
  clear HQ HNO
  subst q0
  unfold BHead at hh
  rcases Nat.lt_or_ge tags.length 1 with h1 | h1
  case' inl =>
   have d1 : ((tags.length : Int) == 0) = true := beq_iff_eq.mpr (by omega)
  case' inr =>
   have d1 : ((tags.length : Int) == 0) = false := beq_eq_false_iff_ne.mpr (by omega)
   rcases Nat.lt_or_ge 40000 tags.length with h2 | h2
  case' inr.inl =>
   have d2 : decide ((tags.length : Int) > 40000) = true := decide_eq_true (by omega)
   have d2' : decide (40000 < tags.length) = true := decide_eq_true h2
  case' inr.inr =>
   have d2 : decide ((tags.length : Int) > 40000) = false := decide_eq_false (by omega)
   have d2' : decide (40000 < tags.length) = false := decide_eq_false (by omega)
   have d3 : ((next.length : Int) == (tags.length : Int)) = false := beq_eq_false_iff_ne.mpr (by omega)
   have d3' : ((next.length : Int) != (tags.length : Int)) = true := bne_iff_ne.mpr (by omega)
  all_goals
   clear hh
   go_enter Tryd.func25, Tryd.ntmps25
   go_wp2_with fail
   go_ret
   exact ⟨rfl, HS.out.below⟩
 case pos =>
  have HH := Aside0.mk hh
  obtain ⟨h1, h2, h3⟩ := hh
  have d1 : ((tags.length : Int) == 0) = false := beq_eq_false_iff_ne.mpr (by omega)
  have d2 : decide ((tags.length : Int) > 40000) = false := decide_eq_false (by omega)
  have d2' : decide (40000 < tags.length) = false := decide_eq_false (by omega)
  have d3 : ((next.length : Int) == (tags.length : Int)) = true := beq_iff_eq.mpr (by omega)
  have d3' : ((next.length : Int) != (tags.length : Int)) = false := bne_eq_false_iff_eq.mpr (by omega)
  have HL3 := Aside0.mk h3
  clear h1 h2 h3
  go_enter Tryd.func25, Tryd.ntmps25
  go_wp2_with fail
  obtain ⟨g1, hg1⟩ : ∃ g, g = w.heap.size + 1 := ⟨_, rfl⟩
  obtain ⟨g0, hg0⟩ : ∃ g, g = w.heap.size := ⟨_, rfl⟩
  rw [← hg1, ← hg0] at HS ⊢
  clear hg0 hg1 d1 d2 d2' d3 d3' yk
  go_loopg [27] next.length (fun m v27 w' => ∃ (i : Nat), v27 = .int .i64 i ∧ Aside0 (i + m = next.length) ∧ Aside0 (∀ i', i' < i → BRow next tags i') ∧ Aside0 (Sep X w w' [.box g0 27 [.slice An next.length cn, .slice At tags.length ct], .box g1 3 [.int .i64 tags.length]]))
  case atStart => exact ⟨0, rfl, ⟨by omega⟩, ⟨fun i' h => by omega⟩, HS⟩
  case round =>
   clear HS
   obtain ⟨i, rfl, HJ, HI, HS⟩ := hrel
   cases gk with
   | zero =>
    have e1 : decide ((i : Int) < (next.length : Int)) = false := decide_eq_false (by have := HJ.out; omega)
    have e2 : decide (i < next.length) = false := decide_eq_false (by have := HJ.out; omega)
    have q0 : q = true := HQ.out.2 ⟨HH.out, fun i' h => HI.out i' (by have := HJ.out; have := HL3.out; omega)⟩
    clear HQ HNO
    subst q0
    go_wp2_with fail
    go_ret
    exact ⟨rfl, HS.out.below⟩
   | succ k1 =>
    have hin : i < next.length := by have := HJ.out; omega
    have hi : i < tags.length := by rw [← HL3.out]; exact hin
    have e1 : decide ((i : Int) < (next.length : Int)) = true := decide_eq_true (by omega)
    have e2 : decide (i < next.length) = true := decide_eq_true hin
    have hi0 : (0 : Int) ≤ (i : Int) := by omega
    have hi1 : (i : Int) < (tags.length : Int) := by omega
    have hi2 : (i : Int) < (next.length : Int) := by omega
    obtain ⟨an, cn', u, en, hu, yn0⟩ := H1.out.row i hin
    cases en
    obtain ⟨at_, ct', et, yt0⟩ := int_cell H2.out i hi
    cases et
    obtain ⟨Au, cu, rfl, _, _⟩ := hu.now
    have HU := Aside0.mk hu
    have y0 := (HS.out.box 0 rfl).cell 0 rfl
    have y1 := (HS.out.box 0 rfl).cell 1 rfl
    have yn := pw_cell_below HS.out.below yn0
    have yt := pw_cell_below HS.out.below yt0
    have HROW := Aside0.mk (Iff.intro (fun (h : BRow next tags i) => (show (next.getD i []).length = 256 ∧ -1 ≤ tags.getD i 0 ∧ ∀ j, j < 256 → -1 ≤ (next.getD i []).getD j 0 ∧ (next.getD i []).getD j 0 < (tags.length : Int) from h)) (fun (h : (next.getD i []).length = 256 ∧ -1 ≤ tags.getD i 0 ∧ ∀ j, j < 256 → -1 ≤ (next.getD i []).getD j 0 ∧ (next.getD i []).getD j 0 < (tags.length : Int)) => (show BRow next tags i from h)))
    have HNR := Aside0.mk (fun (h : ¬ BRow next tags i) => HNO.out (fun hs => h (hs.2 i hi)))
    have HST := Aside0.mk (fun (h : BRow next tags i) => (show ∀ i', i' < i + 1 → BRow next tags i' from fun i' h1 => (Nat.lt_or_ge i' i).elim (HI.out i') (fun h2 => by
     have : i' = i := by omega
     rw [this]; exact h)))
    generalize next.getD i [] = row at *
    generalize tags.getD i 0 = tg at *
    clear hu yn0 yt0
    rcases Decidable.em (row.length = 256 ∧ -1 ≤ tg) with hr | hr
    case inr =>
     have q0 : q = false := HNR.out (fun h => hr ⟨(HROW.out.1 h).1, (HROW.out.1 h).2.1⟩)
     clear HQ HNO HNR HROW HST
     subst q0
     rcases Decidable.em (row.length = 256) with h4 | h4
     case' inl =>
      have d4 : ((row.length : Int) == 256) = true := beq_iff_eq.mpr (by omega)
      have d4' : ((row.length : Int) != 256) = false := bne_eq_false_iff_eq.mpr (by omega)
      have d5 : decide (tg < -1) = true := decide_eq_true (by omega)
     case' inr =>
      have d4 : ((row.length : Int) == 256) = false := beq_eq_false_iff_ne.mpr (by omega)
      have d4' : ((row.length : Int) != 256) = true := bne_iff_ne.mpr (by omega)
     all_goals
      clear hr h4
      go_wp2_with fail
      go_ret
      exact ⟨rfl, HS.out.below⟩
    case inl =>
     obtain ⟨h4, h5⟩ := hr
     have d4 : ((row.length : Int) == 256) = true := beq_iff_eq.mpr (by omega)
     have d4' : ((row.length : Int) != 256) = false := bne_eq_false_iff_eq.mpr (by omega)
     have d5 : decide (tg < -1) = false := decide_eq_false (by omega)
     have HAO := Aside0.mk (any_odd tags.length row)
     have HPR := Aside0.mk (odd13_pred tags.length g1 wr (HS.out.box 1 rfl).lt ((HS.out.box 1 rfl).cell 0 rfl))
     have H45 := Aside0.mk (And.intro h4 h5)
     obtain ⟨a, ha⟩ : ∃ a, a = row.any (oddB tags.length) := ⟨_, rfl⟩
     have HA := Aside0.mk ha.symm
     rw [← ha] at HAO
     have eg : ∀ args w, (callFunc 41 args).run Tryd.prog w = .ok (.enter 41 args) w := Go.Proofs.enters_of Tryd.func41 (by kernel_rfl) rfl
     clear h4 h5 ha
     cases a
     case true =>
      have q0 : q = false := HNR.out (fun h => by have := HAO.out.2 (fun j hj => (HROW.out.1 h).2.2 j (by rw [← H45.out.1]; exact hj)); cases this)
      clear HQ HNO HNR HROW HST
      subst q0
      go_wp2_with (first
       | (go_at_call 32; (with_reducible refine (containsFunc_calls _ _ row _ (HS.out.arg HU.out) _ _ eg _ HPR.out).mono ?_); rintro ee w5 ⟨rfl, hb⟩; rw [HA.out]; have hs := HS.out.call hb; clear hb; clear HS; have HS := Aside0.mk hs; clear hs))
      go_ret
      exact ⟨rfl, HS.out.below⟩
     case false =>
      have HT2 := Aside0.mk (HST.out (HROW.out.2 ⟨H45.out.1, H45.out.2, fun j hj => HAO.out.1 rfl j (by rw [H45.out.1]; exact hj)⟩))
      clear HNR HROW HST HI
      go_wp2_with (first
       | (go_at_call 32; (with_reducible refine (containsFunc_calls _ _ row _ (HS.out.arg HU.out) _ _ eg _ HPR.out).mono ?_); rintro ee w5 ⟨rfl, hb⟩; rw [HA.out]; have hs := HS.out.call hb; clear hb; clear HS; have HS := Aside0.mk hs; clear hs))
      go_roundg k1
      case measure => omega
      case rel => exact ⟨i + 1, by go_num, ⟨by have := HJ.out; omega⟩, HT2, HS⟩
end Go.Proofs.YtfbfeimildkigaaDoor.P
namespace Go.Proofs.YtfbfeimildkigaaDoor.IT
def dig (d : Nat) : Int := if d < 10 then 48 + (d : Int) else 87 + (d : Int)
def digs : Nat → Nat → List Int
 | 0, n => [dig n]
 | k + 1, n => if n < 36 then [dig n] else digs k (n / 36) ++ [dig (n % 36)]
def itoa (n : Int) : List Int := if n < 0 then 45 :: digs 13 n.natAbs else digs 13 n.natAbs
def undig (d : Int) : Nat := if d < 58 then (d - 48).toNat else (d - 87).toNat
theorem undig_dig (d : Nat) (h : d < 36) : undig (dig d) = d := by
 unfold undig dig
 split <;> split <;> omega
def val (l : List Int) : Nat := l.foldl (fun a d => a * 36 + undig d) 0
theorem val_snoc (l : List Int) (d : Int) : val (l ++ [d]) = val l * 36 + undig d := by unfold val; rw [List.foldl_append]; rfl
theorem val_digs : ∀ (k n : Nat), n < 36 ^ (k + 1) → val (digs k n) = n
 | 0, n, h => by
  simp only [digs, val, List.foldl_cons, List.foldl_nil]
  rw [undig_dig n (by simpa using h)]; omega
 | k + 1, n, h => by
  unfold digs
  split
  ·simp only [val, List.foldl_cons, List.foldl_nil]
   rw [undig_dig n (by omega)]; omega
  ·rw [val_snoc, val_digs k (n / 36) (by rw [Nat.div_lt_iff_lt_mul (by decide)]; rw [Nat.pow_succ] at h; exact h), undig_dig _ (Nat.mod_lt _ (by decide))]
   omega
theorem dig_range (d : Nat) (h : d < 36) : 48 ≤ dig d ∧ dig d ≤ 122 := by unfold dig; split <;> omega
theorem digs_range : ∀ (k n : Nat), n < 36 ^ (k + 1) → ∀ x ∈ digs k n, 48 ≤ x ∧ x ≤ 122
 | 0, n, h, x, hx => by
  simp only [digs, List.mem_singleton] at hx
  subst hx
  exact dig_range n (by simpa using h)
 | k + 1, n, h, x, hx => by
  unfold digs at hx
  split at hx
  ·simp only [List.mem_singleton] at hx
   subst hx
   exact dig_range n (by omega)
  ·rcases List.mem_append.1 hx with hx | hx
   ·exact digs_range k (n / 36) (by rw [Nat.div_lt_iff_lt_mul (by decide)]; rw [Nat.pow_succ] at h; exact h) x hx
   ·simp only [List.mem_singleton] at hx
    subst hx
    exact dig_range _ (Nat.mod_lt _ (by decide))
theorem digs_len : ∀ (k n : Nat), 1 ≤ (digs k n).length ∧ (digs k n).length ≤ k + 1
 | 0, n => by simp [digs]
 | k + 1, n => by
  unfold digs
  split
  ·simp
  ·have := digs_len k (n / 36)
   simp
   omega
def Fits (n : Int) : Prop := -9223372036854775808 ≤ n ∧ n ≤ 9223372036854775807
theorem pow13 (n : Int) (h : Fits n) : n.natAbs < 36 ^ (13 + 1) := by
 have : (36 : Nat) ^ (13 + 1) = 6140942214464815497216 := by decide
 unfold Fits at h
 omega
theorem itoa_range (n : Int) (h : Fits n) : ∀ x ∈ itoa n, 45 ≤ x ∧ x ≤ 122 := by
 intro x hx
 unfold itoa at hx
 split at hx
 ·rcases List.mem_cons.1 hx with rfl | hx
  ·omega
  ·have := digs_range 13 _ (pow13 n h) x hx; omega
 ·have := digs_range 13 _ (pow13 n h) x hx; omega
theorem itoa_len (n : Int) : 1 ≤ (itoa n).length ∧ (itoa n).length ≤ 15 := by
 unfold itoa
 have := digs_len 13 n.natAbs
 split
 ·rw [List.length_cons]; omega
 ·omega
theorem itoa_inj (a b : Int) (ha : Fits a) (hb : Fits b) (h : itoa a = itoa b) : a = b := by
 have va := val_digs 13 _ (pow13 a ha)
 have vb := val_digs 13 _ (pow13 b hb)
 have ra := digs_range 13 _ (pow13 a ha)
 have rb := digs_range 13 _ (pow13 b hb)
 unfold itoa at h
 split at h <;> split at h
 ·have := List.tail_eq_of_cons_eq h
  rw [this] at va
  omega
 ·have h1 : (45 : Int) ∈ digs 13 b.natAbs := by rw [← h]; exact List.mem_cons_self
  have := rb _ h1
  omega
 ·have h1 : (45 : Int) ∈ digs 13 a.natAbs := by rw [h]; exact List.mem_cons_self
  have := ra _ h1
  omega
 ·rw [h] at va
  omega
def colText : List Int → List Int
 | [] => []
 | x :: t => itoa x ++ 32 :: colText t
theorem split_at : ∀ (a b s t : List Int), (∀ x ∈ a, x ≠ 32) → (∀ x ∈ b, x ≠ 32) → a ++ 32 :: s = b ++ 32 :: t → a = b ∧ s = t
 | [], [], s, t, _, _, h => ⟨rfl, by simpa using h⟩
 | [], y :: b, s, t, _, hb, h => by
  exfalso
  simp only [List.nil_append, List.cons_append, List.cons.injEq] at h
  exact hb y List.mem_cons_self h.1.symm
 | x :: a, [], s, t, ha, _, h => by
  exfalso
  simp only [List.nil_append, List.cons_append, List.cons.injEq] at h
  exact ha x List.mem_cons_self h.1
 | x :: a, y :: b, s, t, ha, hb, h => by
  simp only [List.cons_append, List.cons.injEq] at h
  obtain ⟨h1, h2⟩ := split_at a b s t (fun z hz => ha z (List.mem_cons_of_mem _ hz)) (fun z hz => hb z (List.mem_cons_of_mem _ hz)) h.2
  exact ⟨by rw [h.1, h1], h2⟩
theorem colText_inj : ∀ (a b : List Int), (∀ x ∈ a, Fits x) → (∀ x ∈ b, Fits x) → colText a = colText b → a = b
 | [], [], _, _, _ => rfl
 | [], y :: b, _, hb, h => by
  exfalso
  have := congrArg List.length h
  simp [colText] at this
 | x :: a, [], _, _, h => by
  exfalso
  have := congrArg List.length h
  simp [colText] at this
 | x :: a, y :: b, ha, hb, h => by
  simp only [colText] at h
  have fx := ha x List.mem_cons_self
  have fy := hb y List.mem_cons_self
  obtain ⟨h1, h2⟩ := split_at _ _ _ _ (fun z hz => by have := itoa_range x fx z hz; omega) (fun z hz => by have := itoa_range y fy z hz; omega) h
  rw [itoa_inj x y fx fy h1, colText_inj a b (fun z hz => ha z (List.mem_cons_of_mem _ hz)) (fun z hz => hb z (List.mem_cons_of_mem _ hz)) h2]
theorem colText_len : ∀ (a : List Int), (colText a).length ≤ 16 * a.length
 | [] => by simp [colText]
 | x :: t => by
  have h1 := itoa_len x
  have h2 := colText_len t
  simp [colText]
  omega
theorem colText_bytes : ∀ (a : List Int), (∀ x ∈ a, Fits x) → ∀ x ∈ colText a, 0 ≤ x ∧ x ≤ 255
 | [], _, x, hx => by cases hx
 | y :: t, ha, x, hx => by
  simp only [colText] at hx
  rcases List.mem_append.1 hx with hx | hx
  ·have := itoa_range y (ha y List.mem_cons_self) x hx; omega
  ·rcases List.mem_cons.1 hx with rfl | hx
   ·omega
   ·exact colText_bytes t (fun z hz => ha z (List.mem_cons_of_mem _ hz)) x hx
theorem colText_snoc : ∀ (a : List Int) (x : Int), colText (a ++ [x]) = colText a ++ itoa x ++ [32]
 | [], x => by simp [colText]
 | y :: t, x => by simp [colText, colText_snoc t x]
end Go.Proofs.YtfbfeimildkigaaDoor.IT
namespace Go.Proofs.YtfbfeimildkigaaDoor.P
open Go Go.RowKit Go.Proofs.YtfbfeimildkigaaDoorW.PrintWords Go.Proofs.YtfbfeimildkigaaDoorW.PrintLast Go.Proofs.YtfbfeimildkigaaDoorW.PrintMore Go.Proofs.YtfbfeimildkigaaDoor.PX Go.Proofs.YtfbfeimildkigaaDoor.IT
set_option linter.unusedVariables false
set_option linter.unusedSimpArgs false
set_option maxRecDepth 100000
def buf (ds : List Int) : List Value := List.replicate (65 - ds.length) (.int .u8 0) ++ ds.map (Value.int .u8)
theorem buf_at {ds : List Int} {k : Nat} (h : k < 65 - ds.length) : (buf ds)[k]? = some (.int .u8 0) := by
 unfold buf
 rw [List.getElem?_append_left (by simpa using h), List.getElem?_replicate, if_pos h]
theorem dig_at (u : Nat) (h : u < 36) (h2) : ((({ data := #[48, 49, 50, 51, 52, 53, 54, 55, 56, 57, 97, 98, 99, 100, 101, 102, 103, 104, 105, 106, 107, 108, 109, 110, 111, 112, 113, 114, 115, 116, 117, 118, 119, 120, 121, 122] } : ByteArray)[u]'h2).toNat : Int) = dig u := by
 have : ∀ v : Fin 36, ((({ data := #[48, 49, 50, 51, 52, 53, 54, 55, 56, 57, 97, 98, 99, 100, 101, 102, 103, 104, 105, 106, 107, 108, 109, 110, 111, 112, 113, 114, 115, 116, 117, 118, 119, 120, 121, 122] } : ByteArray)[v.1]'v.2).toNat : Int) = dig v.1 := by decide
 exact this ⟨u, h⟩
theorem sl142 (g k : Nat) (hk : k < 65) (W : World) : (Instr.sliceAt 142 (.pointer (some ⟨g, 0, none⟩)) (some (.int .i64 k)) none none).run Tryd.prog W = .ok (.slice (some ⟨g, k, none⟩) (65 - k) (65 - k)) W := by
 have h := run_sliceAt_array_l (P := Tryd.prog) W 142 ⟨g, 0, none⟩ (by rfl) .i64 k (by omega) (by show (k : Int) ≤ 65; omega)
 rw [h]
 have h1 : (⟨g, 0, none⟩ : Addr).add (k * 1) = ⟨g, k, none⟩ := by
  unfold Addr.add
  split
  ·obtain rfl : k = 0 := by omega
   rfl
  ·simp
 show Result.ok (slicedAt ⟨g, 0, none⟩ (k : Int).toNat 65 65 1) W = _
 rw [slicedAt, Int.toNat_natCast, if_neg (by omega), h1]
theorem buf_get {ds : List Int} {k j : Nat} (h : k = 65 - ds.length) (hj : j < ds.length) : (buf ds)[k + j]? = some (.int .u8 (ds.getD j 0)) := by
 unfold buf
 rw [List.getElem?_append_right (by simp; omega), List.length_replicate, show k + j - (65 - ds.length) = j by omega, List.getElem?_map, List.getElem?_eq_getElem hj, List.getD_eq_getElem?_getD, List.getElem?_eq_getElem hj]
 rfl
theorem _root_.Go.Proofs.YtfbfeimildkigaaDoor.PX.Sep.set_buf {X : Nat → Prop} {w0 w : World} {L : List PX.Item} {g : Nat} {ds : List Int} (h : Sep X w0 w (L ++ [.box g 142 (buf ds)])) (d : Int) (k : Nat) (hk : k + ds.length = 64) : Sep X w0 (w.setCell ⟨g, k, none⟩ (.int .u8 d)) (L ++ [.box g 142 (buf (d :: ds))]) := by
 have h1 := h.set_box L.length (by rw [List.getElem?_append_right (Nat.le_refl _), Nat.sub_self]; rfl) k (.int .u8 d)
 rw [List.set_append, if_neg (by omega), Nat.sub_self] at h1
 have e1 : (buf ds).set k (.int .u8 d) = buf (d :: ds) := by
  unfold buf
  rw [List.set_append, if_pos (by simp; omega), show 65 - ds.length = k + 1 by omega, List.length_cons, show 65 - (ds.length + 1) = k by omega, List.replicate_succ', List.set_append, if_neg (by simp), List.length_replicate, Nat.sub_self]
  simp
 rw [← e1]
 exact h1
theorem digs_small (m u : Nat) (h : u < 36) : digs m u = [dig u] := by
 cases m with
 | zero => rfl
 | succ m => rw [digs, if_pos h]
theorem pow36 (w : World) : Calls Tryd.prog 89 #[.int .i64 36] w fun e w' => e = .returned (.bool false) ∧ w' = w := by
 go_enter Tryd.func89, Tryd.ntmps89
 go_wp2_with fail
 go_ret
 exact ⟨rfl, rfl⟩
set_option maxHeartbeats 16000000 in
theorem fbits_calls (X : Nat → Prop) (w0 w : World) (L : List PX.Item) (i : Nat) (v : Value) (xs : List Int) (n : Nat) (hs : Sep X w0 w L) (hi : L[i]? = some (.row kU8 5 v xs)) (hn : n < 18446744073709551616) (hl : xs.length ≤ 1000000000) :
  Calls Tryd.prog 83 #[v, .int .u64 n, .int .i64 36, .bool false, .bool true] w fun ee w' => ∃ v1, ee = .returned (.tuple #[v1, .string { data := #[] }]) ∧ Sep X w0 w' (L.set i (.row kU8 5 v1 (xs ++ digs 13 n))) := by
 have HS := Aside0.mk hs
 obtain ⟨A0, c0, rfl⟩ := hs.form i hi
 have HI := Aside0.mk hi
 clear hs hi
 go_enter Tryd.func83, Tryd.ntmps83
 go_wp2_with fail
 case _ =>
  refine (pow36 _).mono ?_
  rintro e w1 ⟨rfl, rfl⟩
  go_wp2_with fail
  have hs : Sep X w0 (w.alloc (.cells Tryd.zeroCells142 142)) (L ++ [.box w.heap.size 142 (buf [])]) := HS.out.push_box (buf []) 142
  obtain ⟨g, hg⟩ : ∃ g, g = w.heap.size := ⟨_, rfl⟩
  rw [← hg] at hs ⊢
  clear HS hg
  have HS := Aside0.mk hs
  clear hs
  go_loopg [1, 13, 18] 13 (fun m v1 v13 v18 w' => ∃ (u k : Nat) (ds : List Int), v1 = .int .u64 u ∧ v13 = .int .i64 ((k : Int) + 1) ∧ Aside0 (k + ds.length = 64 ∧ ds.length + m = 13) ∧ Aside0 (u < 36 ^ (m + 1) ∧ u < 18446744073709551616) ∧ Aside0 (digs m u ++ ds = digs 13 n) ∧ Aside0 (Sep X w0 w' (L ++ [.box g 142 (buf ds)])))
  case atStart => exact ⟨n, 64, [], rfl, rfl, ⟨rfl, rfl⟩, ⟨by omega, hn⟩, ⟨by simp⟩, HS⟩
  case round =>
   clear HS
   obtain ⟨u, k, ds, rfl, rfl, HK, HU, HD, HS⟩ := hrel
   have hk := HK.out
   obtain ⟨hu, hub⟩ := HU.out
   have y0 := (HS.out.box L.length (by rw [List.getElem?_append_right (Nat.le_refl _), Nat.sub_self]; rfl)).cell k (buf_at (by omega))
   have f0 := (HS.out.box L.length (by rw [List.getElem?_append_right (Nat.le_refl _), Nat.sub_self]; rfl)).open_ k
   have k0 : (0 : Int) ≤ (k : Int) := by omega
   have k1 : (k : Int) < 65 := by omega
   have k2 : k < 65 := by omega
   rcases Nat.lt_or_ge u 36 with hu36 | hu36
   case inl =>
    have e1 : decide ((u : Int) ≥ 36) = false := decide_eq_false (by omega)
    have e2 : decide ((36 : Int) ≤ (u : Int)) = false := decide_eq_false (by omega)
    have e3 : decide (36 ≤ u) = false := decide_eq_false (by omega)
    have sl : ∀ W, (Instr.sliceAt 142 (.pointer (some ⟨g, 0, none⟩)) (some (.int .i64 k)) none none).run Tryd.prog W = .ok (.slice (some ⟨g, k, none⟩) (dig u :: ds).length (dig u :: ds).length) W := fun W => by
     rw [sl142 g k k2 W, show (dig u :: ds).length = 65 - k by rw [List.length_cons]; omega]
    go_wp2_with (first
     | ((with_reducible refine gate_builtin (b := .append) (xs := #[.tmp 95, .tmp 97]) rfl ?_); at_builtin; rw [dig_at u hu36]; refine sgrow kU8 i rfl (.tmp 95) (.tmp 97) 29 5 (.int .u8 0) 1 rfl Tryd.underlying29 info5 rfl (by decide) (by omega) _ _ xs (dig u :: ds) rfl rfl ((HS.out.set_buf (dig u) k (by omega)).sub (List.sublist_append_left _ _)) HI.out ((HS.out.set_buf (dig u) k (by omega)).box_row (fun j hj => buf_get (by rw [List.length_cons]; omega) hj) (by rw [List.length_cons]; omega)) (by rw [List.length_cons]; omega) ?_; intro v1 w1 hs))
    go_ret2
    have hd := HD.out
    rw [digs_small _ _ hu36] at hd
    rw [← hd]
    exact ⟨_, rfl, hs⟩
   case inr =>
    cases gk with
    | zero => exact absurd hu (by omega)
    | succ k1 =>
     have e1 : decide ((u : Int) ≥ 36) = true := decide_eq_true (by omega)
     have e2 : decide ((36 : Int) ≤ (u : Int)) = true := decide_eq_true (by omega)
     have e3 : decide (36 ≤ u) = true := decide_eq_true (by omega)
     obtain ⟨q, hq⟩ : ∃ q, q = u / 36 := ⟨_, rfl⟩
     obtain ⟨r, hr⟩ : ∃ r, r = u % 36 := ⟨_, rfl⟩
     have q1 : IntKind.u64.wrap ((u : Int) / 36) = (q : Int) := by rw [IntKind.wrap_u64]; omega
     have q2 : IntKind.u64.wrap ((q : Int) * 36) = (q : Int) * 36 := by rw [IntKind.wrap_u64]; omega
     have q3 : IntKind.u64.wrap ((u : Int) - (q : Int) * 36) = (r : Int) := by rw [IntKind.wrap_u64]; omega
     have r36 : r < 36 := by omega
     have HQ := Aside0.mk (And.intro hq hr)
     clear hq hr
     go_wp2_with fail
     have hd := HD.out
     rw [digs, if_neg (by omega), ← HQ.out.1, ← HQ.out.2, List.append_assoc, List.singleton_append] at hd
     have hs := HS.out.set_buf (dig r) k (by omega)
     rw [dig_at r r36]
     obtain ⟨k', hk'⟩ : ∃ k', k = k' + 1 := ⟨k - 1, by omega⟩
     have hq := HQ.out.1
     go_roundg k1
     case measure => omega
     case rel => exact ⟨q, k', dig r :: ds, rfl, by rw [hk']; rfl, ⟨by rw [List.length_cons]; omega⟩, ⟨by rw [hq, Nat.div_lt_iff_lt_mul (by decide)]; rw [Nat.pow_succ] at hu; exact hu, by omega⟩, ⟨hd⟩, ⟨hs⟩⟩
end Go.Proofs.YtfbfeimildkigaaDoor.P
namespace Go.Proofs.YtfbfeimildkigaaDoor.P
open Go Go.RowKit Go.Proofs.YtfbfeimildkigaaDoorW.PrintWords Go.Proofs.YtfbfeimildkigaaDoorW.PrintLast Go.Proofs.YtfbfeimildkigaaDoorW.PrintMore Go.Proofs.YtfbfeimildkigaaDoor.PX Go.Proofs.YtfbfeimildkigaaDoor.IT
set_option linter.unusedVariables false
set_option linter.unusedSimpArgs false
set_option maxRecDepth 100000
set_option maxHeartbeats 16000000 in
theorem auint_calls (X : Nat → Prop) (w0 w : World) (L : List PX.Item) (i : Nat) (v : Value) (xs : List Int) (n : Nat) (hs : Sep X w0 w L) (hi : L[i]? = some (.row kU8 5 v xs)) (hn : n < 18446744073709551616) (hl : xs.length ≤ 1000000000) :
  Calls Tryd.prog 71 #[v, .int .u64 n, .int .i64 36] w fun ee w' => ∃ v1, ee = .returned v1 ∧ Sep X w0 w' (L.set i (.row kU8 5 v1 (xs ++ digs 13 n))) := by
 have HS := Aside0.mk hs
 obtain ⟨A0, c0, rfl⟩ := hs.form i hi
 have HI := Aside0.mk hi
 clear hs hi
 go_enter Tryd.func71, Tryd.ntmps71
 go_wp2_with (first
  | (go_at_call 83; (with_reducible refine (fbits_calls X w0 _ L i _ xs n HS.out HI.out hn hl).mono ?_); rintro ee w5 ⟨v1, rfl, hs⟩))
 go_ret
 exact ⟨_, rfl, hs⟩
set_option maxHeartbeats 16000000 in
theorem aint_calls (X : Nat → Prop) (w0 w : World) (L : List PX.Item) (i : Nat) (v : Value) (xs : List Int) (x : Int) (hs : Sep X w0 w L) (hi : L[i]? = some (.row kU8 5 v xs)) (hx : Fits x) (hl : xs.length + 1 ≤ 1000000000) :
  Calls Tryd.prog 60 #[v, .int .i64 x, .int .i64 36] w fun ee w' => ∃ v1, ee = .returned v1 ∧ Sep X w0 w' (L.set i (.row kU8 5 v1 (xs ++ itoa x))) := by
 have HS := Aside0.mk hs
 obtain ⟨A0, c0, rfl⟩ := hs.form i hi
 have HI := Aside0.mk hi
 have hlt : i < L.length := (List.getElem?_eq_some_iff.1 hi).1
 obtain ⟨hx1, hx2⟩ := hx
 clear hs hi
 rcases Int.lt_or_le x 0 with h0 | h0
 case inl =>
  have e1 : decide (x < 0) = true := decide_eq_true h0
  obtain ⟨n, hn⟩ : ∃ n : Nat, x = -(n : Int) := ⟨x.natAbs, by omega⟩
  subst hn
  have q1 : IntKind.u64.wrap (-(n : Int)) = 18446744073709551616 - (n : Int) := by rw [IntKind.wrap_u64]; omega
  have q2 : IntKind.u64.wrap (-(18446744073709551616 - (n : Int))) = (n : Int) := by rw [IntKind.wrap_u64]; omega
  have HE := Aside0.mk (show itoa (-(n : Int)) = 45 :: digs 13 n by rw [itoa, if_pos h0, Int.natAbs_neg, Int.natAbs_natCast])
  go_enter Tryd.func60, Tryd.ntmps60
  go_wp2_with (first
   | ((with_reducible refine gate_dst (N := 13) rfl ?_); refine slit kU8 5 ?hg (N := 13) ?hd (xs := [(45 : Int)]) (inner := [.int .u8 45]) ?hr HS.out ?hp (by simp) ?_; (case hd => rfl); (case hg => rfl); (case hr => first | (go_simp; done) | (go_simp; rfl)); (case hp => exact Reps.one (PK.scalar _) (Reps.none _ _)); clear HS; intro v30 w30 hs; have HS := Aside0.mk hs; clear hs)
   | ((with_reducible refine gate_builtin (b := .append) (xs := #[.tmp 12, .tmp 13]) rfl ?_); at_builtin; refine sgrow kU8 i rfl (.tmp 12) (.tmp 13) 29 5 (.int .u8 0) 1 rfl Tryd.underlying29 info5 rfl (by decide) (by omega) _ _ xs [(45 : Int)] rfl rfl HS.out (by rw [List.getElem?_append_left hlt]; exact HI.out) (HS.out.ro L.length List.getElem?_concat_length) (by rw [List.length_singleton]; omega) ?_; intro v1 w1 hs; rw [List.set_append, if_pos hlt] at hs; have hs2 := hs.sub (List.sublist_append_left _ _); clear HS; have HS := Aside0.mk hs2; clear hs hs2)
   | (go_at_call 71; (with_reducible refine (auint_calls X w0 _ _ i _ (xs ++ [45]) n HS.out (by rw [List.getElem?_set_self hlt]) (by omega) (by rw [List.length_append, List.length_singleton]; omega)).mono ?_); rintro ee w5 ⟨v5, rfl, hs⟩))
  go_ret
  rw [HE.out]
  rw [List.set_set, List.append_assoc] at hs
  exact ⟨_, rfl, hs⟩
 case inr =>
  have e1 : decide (x < 0) = false := decide_eq_false (by omega)
  obtain ⟨n, hn⟩ : ∃ n : Nat, x = (n : Int) := ⟨x.natAbs, by omega⟩
  subst hn
  have q1 : IntKind.u64.wrap (n : Int) = (n : Int) := by rw [IntKind.wrap_u64]; omega
  have HE := Aside0.mk (show itoa (n : Int) = digs 13 n by rw [itoa, if_neg (by omega), Int.natAbs_natCast])
  go_enter Tryd.func60, Tryd.ntmps60
  go_wp2_with (first
   | (go_at_call 71; (with_reducible refine (auint_calls X w0 _ _ i _ xs n HS.out HI.out (by omega) (by omega)).mono ?_); rintro ee w5 ⟨v5, rfl, hs⟩))
  go_ret
  rw [HE.out]
  exact ⟨_, rfl, hs⟩
theorem appendInt_calls (X : Nat → Prop) (w0 w : World) (L : List PX.Item) (i : Nat) (v : Value) (xs : List Int) (x : Int) (hs : Sep X w0 w L) (hi : L[i]? = some (.row kU8 5 v xs)) (hx : Fits x) (hl : xs.length + 1 ≤ 1000000000) :
  Calls Tryd.prog 42 #[v, .int .i64 x, .int .i64 36] w fun ee w' => ∃ v1, ee = .returned v1 ∧ Sep X w0 w' (L.set i (.row kU8 5 v1 (xs ++ itoa x))) := by
 have HS := Aside0.mk hs
 obtain ⟨A0, c0, rfl⟩ := hs.form i hi
 have HI := Aside0.mk hi
 clear hs hi
 go_enter Tryd.func42, Tryd.ntmps42
 go_wp2_with (first
  | (go_at_call 60; (with_reducible refine (aint_calls X w0 _ L i _ xs x HS.out HI.out hx hl).mono ?_); rintro ee w5 ⟨v1, rfl, hs⟩))
 go_ret
 exact ⟨_, rfl, hs⟩
end Go.Proofs.YtfbfeimildkigaaDoor.P
namespace Go.Proofs.YtfbfeimildkigaaDoor.P
open Go Go.RowKit Go.Proofs.YtfbfeimildkigaaDoorW.PrintWords Go.Proofs.YtfbfeimildkigaaDoorW.PrintLast Go.Proofs.YtfbfeimildkigaaDoorW.PrintMore Go.Proofs.YtfbfeimildkigaaDoor.PX Go.Proofs.YtfbfeimildkigaaDoor.IT
set_option linter.unusedVariables false
set_option linter.unusedSimpArgs false
set_option maxRecDepth 100000
def colAt (next : List (List Int)) (c : Nat) : List Int := next.map (fun row => row.getD c 0)
set_option maxHeartbeats 16000000 in
theorem column_calls (X : Nat → Prop) (vn : Value) (next : List (List Int)) (c : Nat) (w : World) (hX : ∀ k, X k → k < w.heap.size) (hn : PV kRow X w vn next) (hr : ∀ row ∈ next, c < row.length) (hf : ∀ row ∈ next, Fits (row.getD c 0)) (hl : next.length ≤ 1000000) :
  Calls Tryd.prog 27 #[vn, .int .i64 c] w fun e w' => e = .returned (.string (strOfNums (colText (colAt next c)))) ∧ Below w.heap.size w w' := by
 have H1 := Aside0.mk hn
 have HR := Aside0.mk (show ∀ i, i < next.length → c < (next.getD i []).length ∧ Fits ((next.getD i []).getD c 0) from fun i hi => ⟨hr _ (mem_getD next [] i hi), hf _ (mem_getD next [] i hi)⟩)
 obtain ⟨An, cn, rfl, _, _⟩ := hn.now
 have HS := Aside0.mk ((Sep.start hX).push_nil kU8 5)
 clear hn hr hf hX
 go_enter Tryd.func27, Tryd.ntmps27
 go_wp2_with fail
 go_loopg [5, 10] next.length (fun m v5 v10 w' => ∃ (i : Nat) (b : List Int), v10 = .int .i64 i ∧ Aside0 (i + m = next.length) ∧ Aside0 (b = colText (colAt (next.take i) c)) ∧ Aside0 (Sep X w w' [.row kU8 5 v5 b]))
 case atStart => exact ⟨0, [], rfl, ⟨by omega⟩, ⟨rfl⟩, HS⟩
 case round =>
  clear HS
  obtain ⟨i, b, rfl, HJ, HB, HS⟩ := hrel
  obtain ⟨A5, c5, e5⟩ := HS.out.form 0 rfl
  subst e5
  cases gk with
  | zero =>
   have hi : i = next.length := by have := HJ.out; omega
   have e1 : decide ((i : Int) < (next.length : Int)) = false := decide_eq_false (by omega)
   have e2 : decide (i < next.length) = false := decide_eq_false (by omega)
   have st := HS.out.str (P := Tryd.prog) 0 _ rfl Tryd.underlying29 Tryd.underlying5 Tryd.underlying9
   have HB3 := Aside0.mk (show b = colText (colAt next c) by have hb := HB.out; rwa [hi, List.take_length] at hb)
   go_wp2_with fail
   go_ret
   rw [← HB3.out]
   exact ⟨rfl, HS.out.below⟩
  | succ k1 =>
   have hi : i < next.length := by have := HJ.out; omega
   have e1 : decide ((i : Int) < (next.length : Int)) = true := decide_eq_true (by omega)
   have e2 : decide (i < next.length) = true := decide_eq_true hi
   have hi0 : (0 : Int) ≤ (i : Int) := by omega
   have hi1 : (i : Int) < (next.length : Int) := by omega
   have hc0 : (0 : Int) ≤ (c : Int) := by omega
   obtain ⟨an, cn', u, en, hun, yn0⟩ := H1.out.row i hi
   cases en
   obtain ⟨hcl, hfx⟩ := HR.out i hi
   have hlen : b.length ≤ 16 * i := by
    rw [HB.out]
    have := colText_len (colAt (next.take i) c)
    have h2 : (colAt (next.take i) c).length = i := by simp [colAt]; omega
    omega
   have HB2 := Aside0.mk (show b ++ itoa ((next.getD i []).getD c 0) ++ [32] = colText (colAt (next.take (i + 1)) c) by rw [take_at next [] i hi, colAt, List.map_append, List.map_cons, List.map_nil, colText_snoc, HB.out]; rfl)
   obtain ⟨row, hrow⟩ : ∃ r, r = next.getD i [] := ⟨_, rfl⟩
   rw [← hrow] at hun hcl hfx HB2
   clear hrow
   have hc1 : (c : Int) < (row.length : Int) := by omega
   obtain ⟨Au, cu, rfl, _, _⟩ := hun.now
   obtain ⟨ar, cr, er, yr0⟩ := int_cell hun c hcl
   cases er
   have yn := pw_cell_below HS.out.below yn0
   have yr := pw_cell_below HS.out.below yr0
   clear hun yn0 yr0 hcl HB
   generalize row.getD c 0 = x at *
   have hxl := itoa_len x
   go_wp2_with (first
    | (go_at_call 42; (with_reducible refine (appendInt_calls X w _ _ 0 _ b x HS.out rfl hfx (by omega)).mono ?_); rintro ee w5 ⟨v5, rfl, hs⟩; clear HS; have HS := Aside0.mk hs; clear hs)
    | ((with_reducible refine gate_dst (N := 21) rfl ?_); refine slit kU8 5 ?hg (N := 21) ?hd (xs := [(32 : Int)]) (inner := [.int .u8 32]) ?hr HS.out ?hp (by simp) ?_; (case hd => rfl); (case hg => rfl); (case hr => first | (go_simp; done) | (go_simp; rfl)); (case hp => exact Reps.one (PK.scalar _) (Reps.none _ _)); clear HS; intro v30 w30 hs; have HS := Aside0.mk hs; clear hs)
    | ((with_reducible refine gate_builtin (b := .append) (xs := #[.tmp 20, .tmp 21]) rfl ?_); at_builtin; refine sgrow kU8 0 rfl (.tmp 20) (.tmp 21) 29 5 (.int .u8 0) 1 rfl Tryd.underlying29 info5 rfl (by decide) (by omega) _ _ (b ++ itoa x) [(32 : Int)] rfl rfl HS.out rfl (HS.out.ro 1 rfl) (by rw [List.length_append, List.length_singleton]; omega) ?_; clear HS; intro v1 w1 hs; have hs := hs.take 1; have HS := Aside0.mk hs; clear hs))
   go_roundg k1
   case measure => omega
   case rel => exact ⟨i + 1, _, by go_num, ⟨by have := HJ.out; omega⟩, HB2, HS⟩
end Go.Proofs.YtfbfeimildkigaaDoor.P
namespace Go.Proofs.YtfbfeimildkigaaDoor.P
open Go Go.RowKit Go.Proofs.YtfbfeimildkigaaDoorW.PrintWords Go.Proofs.YtfbfeimildkigaaDoor.PX Go.Proofs.YtfbfeimildkigaaDoor.IT
open Go.Maps (Tidy IsMap)
set_option linter.unusedVariables false
def keyL (next : List (List Int)) (a : Nat) : Lit := .string (strOfNums (colText (colAt next a))).data.toList
theorem colAt_iff (next : List (List Int)) (a b : Nat) : colAt next a = colAt next b ↔ sameCol next a b = true := by
 unfold colAt sameCol
 rw [List.map_inj_left, List.all_eq_true]
 exact ⟨fun h x hx => decide_eq_true (h x hx), fun h x hx => of_decide_eq_true (h x hx)⟩
theorem colAt_fits {next : List (List Int)} {a : Nat} (h : ∀ row ∈ next, Fits (row.getD a 0)) : ∀ x ∈ colAt next a, Fits x := by
 intro x hx
 obtain ⟨row, hr, rfl⟩ := List.mem_map.1 hx
 exact h row hr
theorem keyL_iff {next : List (List Int)} {a b : Nat} (ha : ∀ row ∈ next, Fits (row.getD a 0)) (hb : ∀ row ∈ next, Fits (row.getD b 0)) : keyL next a = keyL next b ↔ sameCol next a b = true := by
 rw [← colAt_iff]
 constructor
 ·intro h
  unfold keyL at h
  have h1 := Lit.string.inj h
  rw [strOfNums_data, strOfNums_data] at h1
  have h2 := str_inj _ _ (fun x hx => by have := colText_bytes _ (colAt_fits ha) x hx; omega) (fun x hx => by have := colText_bytes _ (colAt_fits hb) x hx; omega) h1
  exact colText_inj _ _ (colAt_fits ha) (colAt_fits hb) h2
 ·intro h
  unfold keyL
  rw [h]
theorem keyL_key (next : List (List Int)) (a : Nat) : WideAt.IsKeyLit (keyL next a) := trivial
theorem key_string {P : Program} {k : TypeId} (hk : P.underlying k = some .string) (next : List (List Int)) (a : Nat) (hl : next.length ≤ 1000000) : keyOf P k (.string (strOfNums (colText (colAt next a)))) = some (keyL next a) := by
 refine WideMaps.keyOf_string_mk hk ?_
 rw [strOfNums_size]
 have h1 := colText_len (colAt next a)
 have h2 : (colAt next a).length = next.length := by simp [colAt]
 unfold maxLen
 omega
structure MapD (K : Nat → Lit) (c : Nat) (D : DataW Unit) : Prop where
 tidy : Tidy D
 has : ∀ x, Maps.has D x = true ↔ ∃ a, a < c ∧ K a = x
 le : Maps.size D ≤ c
 eq : Maps.size D = c ↔ ∀ a, a < c → ∀ b, b < a → K a ≠ K b
theorem MapD.start (K : Nat → Lit) : MapD K 0 (.map []) := ⟨Maps.tidy_empty, fun x => ⟨fun h => by simp [Maps.has] at h, fun ⟨a, h, _⟩ => by omega⟩, Nat.le_refl _, ⟨fun _ a h => by omega, fun _ => rfl⟩⟩
theorem has_put {D : DataW Unit} (hD : IsMap D) {k : Lit} (hk : WideAt.IsKeyLit k) (d : DataW Unit) (x : Lit) : Maps.has (D.put k d) x = true ↔ x = k ∨ Maps.has D x = true := by
 by_cases c : x = k
 ·subst c
  simp [Maps.has_put_same hD hk]
 ·rw [Maps.has_put_other c]
  simp [c]
theorem MapD.step {K : Nat → Lit} {c : Nat} {D : DataW Unit} (h : MapD K c D) (hk : WideAt.IsKeyLit (K c)) (d : DataW Unit) : MapD K (c + 1) (D.put (K c) d) := by
 have hs := Maps.size_put (k := K c) h.tidy d
 refine ⟨h.tidy.put hk d, fun x => ?_, ?_, ?_⟩
 ·rw [has_put h.tidy.isMap hk, h.has]
  constructor
  ·rintro (rfl | ⟨a, ha, rfl⟩)
   ·exact ⟨c, by omega, rfl⟩
   ·exact ⟨a, by omega, rfl⟩
  ·rintro ⟨a, ha, rfl⟩
   by_cases hc : a = c
   ·subst hc; exact .inl rfl
   ·exact .inr ⟨a, by omega, rfl⟩
 ·rw [hs]
  have := h.le
  split <;> omega
 ·rw [hs]
  have hle := h.le
  cases hh : Maps.has D (K c)
  ·rw [if_neg (by decide)]
   have hn : ∀ b, b < c → K c ≠ K b := fun b hb he => by
    have := (h.has (K c)).2 ⟨b, hb, he.symm⟩
    rw [hh] at this
    cases this
   constructor
   ·intro he a ha b hb
    by_cases hc : a = c
    ·subst hc; exact hn b hb
    ·exact h.eq.1 (by omega) a (by omega) b hb
   ·intro hall
    have := h.eq.2 (fun a ha b hb => hall a (by omega) b hb)
    omega
  ·rw [if_pos rfl]
   obtain ⟨b, hb, he⟩ := (h.has (K c)).1 hh
   constructor
   ·intro he2; omega
   ·intro hall
    exact absurd he.symm (hall c (by omega) b hb)
structure KnownD (K : Nat → Lit) (F : List Int) (D : DataW Unit) : Prop where
 isMap : IsMap D
 has : ∀ x, Maps.has D x = true ↔ ∃ j, j < F.length ∧ K (F.getD j 0).toNat = x
 at_ : ∀ j, j < F.length → ∀ z, D.atKey (K (F.getD j 0).toNat) z = .lit (.int .i64 (j : Int))
theorem KnownD.start (K : Nat → Lit) : KnownD K [] (.map []) := ⟨Maps.isMap_empty, fun x => ⟨fun h => by simp [Maps.has] at h, fun ⟨a, h, _⟩ => by simp at h⟩, fun j h => by simp at h⟩
theorem getD_snoc {F : List Int} {c : Int} (j : Nat) (h : j < F.length) : (F ++ [c]).getD j 0 = F.getD j 0 := by
 rw [List.getD_eq_getElem?_getD, List.getElem?_append_left h, ← List.getD_eq_getElem?_getD]
theorem getD_last (F : List Int) (c : Int) : (F ++ [c]).getD F.length 0 = c := by simp
theorem KnownD.step {K : Nat → Lit} {F : List Int} {c : Nat} {D : DataW Unit} (h : KnownD K F D) (hk : WideAt.IsKeyLit (K c)) (hn : Maps.has D (K c) = false) : KnownD K (F ++ [(c : Int)]) (D.put (K c) (.lit (.int .i64 (F.length : Int)))) := by
 have hne : ∀ j, j < F.length → K (F.getD j 0).toNat ≠ K c := fun j hj he => by
  have := (h.has (K c)).2 ⟨j, hj, he⟩
  rw [hn] at this
  cases this
 refine ⟨h.isMap.put _ _, fun x => ?_, fun j hj z => ?_⟩
 ·rw [has_put h.isMap hk, h.has]
  constructor
  ·rintro (rfl | ⟨j, hj, rfl⟩)
   ·exact ⟨F.length, by simp, by rw [getD_last, Int.toNat_natCast]⟩
   ·exact ⟨j, by simp; omega, by rw [getD_snoc j hj]⟩
  ·rintro ⟨j, hj, rfl⟩
   by_cases hc : j = F.length
   ·subst hc; rw [getD_last, Int.toNat_natCast]; exact .inl rfl
   ·have hj' : j < F.length := by simp at hj; omega
    rw [getD_snoc j hj']
    exact .inr ⟨j, hj', rfl⟩
 ·by_cases hc : j = F.length
  ·subst hc
   rw [getD_last, Int.toNat_natCast]
   exact Maps.atKey_put_same h.isMap hk _ _
  ·have hj' : j < F.length := by simp at hj; omega
   rw [getD_snoc j hj', Maps.atKey_put_other (hne j hj')]
   exact h.at_ j hj' z
theorem KnownD.col {next : List (List Int)} {F : List Int} {c : Nat} {D : DataW Unit} (h : KnownD (keyL next) F D) (hf : ∀ a, a < 256 → ∀ row ∈ next, Fits (row.getD a 0)) (hF : ∀ x ∈ F, 0 ≤ x ∧ x < 256) (hc : c < 256) :
  ∀ (l : List Int) (k : Nat), k + l.length = F.length → F.drop k = l → (∀ j, j < k → keyL next (F.getD j 0).toNat ≠ keyL next c) →
   (colGo next c l k = -1 ∧ Maps.has D (keyL next c) = false) ∨ (0 ≤ colGo next c l k ∧ Maps.has D (keyL next c) = true ∧ ∀ z, D.atKey (keyL next c) z = .lit (.int .i64 (colGo next c l k)))
 | [], k, hk, hd, hn => by
  left
  refine ⟨rfl, ?_⟩
  cases hh : Maps.has D (keyL next c)
  ·rfl
  ·obtain ⟨j, hj, he⟩ := (h.has _).1 hh
   exact absurd he (hn j (by simp at hk; omega))
 | x :: t, k, hk, hd, hn => by
  have hkl : k < F.length := by simp at hk; omega
  have hx : F.getD k 0 = x := by
   have : F.drop k = F.getD k 0 :: F.drop (k + 1) := by
    rw [List.getD_eq_getElem?_getD, List.getElem?_eq_getElem hkl]; exact List.drop_eq_getElem_cons hkl
   rw [hd] at this
   exact (List.cons.inj this).1.symm
  have hxr := hF x (by rw [← hx, List.getD_eq_getElem?_getD, List.getElem?_eq_getElem hkl]; exact List.getElem_mem hkl)
  rw [colGo]
  cases hsc : sameCol next c x.toNat
  ·rw [if_neg (by decide)]
   refine KnownD.col h hf hF hc t (k + 1) (by simp at hk; omega) (by rw [← List.drop_drop, hd]; rfl) (fun j hj => ?_)
   by_cases hjk : j = k
   ·subst hjk
    rw [hx]
    intro he
    have := (keyL_iff (hf c hc) (hf x.toNat (by omega))).1 he.symm
    rw [hsc] at this
    cases this
   ·exact hn j (by omega)
  ·rw [if_pos rfl]
   right
   have he : keyL next x.toNat = keyL next c := ((keyL_iff (hf c hc) (hf x.toNat (by omega))).2 hsc).symm
   refine ⟨by omega, (h.has _).2 ⟨k, hkl, by rw [hx]; exact he⟩, fun z => ?_⟩
   rw [← he, ← hx]
   exact h.at_ k hkl z
end Go.Proofs.YtfbfeimildkigaaDoor.P
namespace Go.Proofs.YtfbfeimildkigaaDoor.PX
open Go Go.RowKit Go.Proofs.YtfbfeimildkigaaDoorW.PrintWords
theorem Sep.perm {X : Nat → Prop} {w0 w : World} {L L' : List Item} (h : Sep X w0 w L) (hp : L.Perm L') : Sep X w0 w L' := by
 refine ⟨fun a ha => Item.ok_step (h.ok a (hp.mem_iff.2 ha)) ?_ (fun k hk => .inr ⟨a, ha, hk⟩) (Agree.refl _ _) (fun _ _ => rfl), (hp.pairwise_iff (fun {_ _} hne => hne.symm)).1 h.ne, h.old, h.below⟩
 rintro k hk (hx | ⟨c, hc, hcb⟩)
 ·exact .inl hx
 ·exact .inr ⟨c, hp.mem_iff.2 hc, hcb⟩
theorem Sep.lit' {α : Type} {X : Nat → Prop} {w0 w : World} {L : List Item} {xs : List α} {inner : List Value} (HS : Sep X w0 w L) (b : Nat) (hb : b = w.heap.size) (d : Kd α) (e : Nat) (hrep : Reps (PK d (Ys X L) w) d.sz xs inner) (hm : xs.length ≤ 9223372036854775807) :
  Sep X w0 (w.alloc (.cells inner.toArray e)) (L ++ [.row d e (.slice (some ⟨b, 0, none⟩) xs.length xs.length) xs]) := by
 subst hb
 exact HS.lit d e hrep hm
section
variable {α : Type _} {L M : List α} {x y z : α}
theorem perm_xzy (h : L ++ [x, y, z] = M) : (L ++ [x] ++ [z] ++ [y]).Perm M := by
 subst h
 simp only [List.append_assoc, List.singleton_append]
 exact (List.Perm.cons _ (List.Perm.swap _ _ _)).append_left L
theorem perm_yxz (h : L ++ [x, y, z] = M) : (L ++ [y] ++ [x] ++ [z]).Perm M := by
 subst h
 simp only [List.append_assoc, List.singleton_append]
 exact (List.Perm.swap _ _ _).append_left L
theorem perm_yzx (h : L ++ [x, y, z] = M) : (L ++ [y] ++ [z] ++ [x]).Perm M := by
 subst h
 simp only [List.append_assoc, List.singleton_append]
 exact ((List.Perm.cons _ (List.Perm.swap _ _ _)).trans (List.Perm.swap _ _ _)).append_left L
theorem perm_zxy (h : L ++ [x, y, z] = M) : (L ++ [z] ++ [x] ++ [y]).Perm M := by
 subst h
 simp only [List.append_assoc, List.singleton_append]
 exact ((List.Perm.swap _ _ _).trans (List.Perm.cons _ (List.Perm.swap _ _ _))).append_left L
theorem perm_zyx (h : L ++ [x, y, z] = M) : (L ++ [z] ++ [y] ++ [x]).Perm M := by
 subst h
 simp only [List.append_assoc, List.singleton_append]
 exact (((List.Perm.cons _ (List.Perm.swap _ _ _)).trans (List.Perm.swap _ _ _)).trans (List.Perm.cons _ (List.Perm.swap _ _ _))).append_left L
end
end Go.Proofs.YtfbfeimildkigaaDoor.PX
namespace Go.Proofs.YtfbfeimildkigaaDoor.P
open Go Go.RowKit Go.Proofs.YtfbfeimildkigaaDoorW.PrintWords Go.Proofs.YtfbfeimildkigaaDoorW.PrintLast Go.Proofs.YtfbfeimildkigaaDoorW.PrintMore Go.Proofs.YtfbfeimildkigaaDoor.PX
set_option linter.unusedVariables false
set_option linter.unusedSimpArgs false
set_option maxRecDepth 100000
def z256 : List Value := (List.replicate 256 (0 : Int)).map (fun x => Value.int .u8 x)
theorem make256 (W : World) : (Instr.makeSlice 29 (.int .i64 256) (.int .i64 256)).run Tryd.prog W = .ok (.slice (some ⟨W.heap.size, 0, none⟩) 256 256) (W.alloc (.cells z256.toArray 5)) := by
 obtain ⟨i0, hi, hzz⟩ := Option.map_eq_some_iff.1 info5
 simp only [Prod.mk.injEq] at hzz
 obtain ⟨hz0, hz1, hz2⟩ := hzz
 have h := run_makeSlice (P := Tryd.prog) W 29 5 i0 (.int .u8 0) Tryd.underlying29 hi hz0 .i64 .i64 256 256 (by decide) (by decide) (by rw [hz1]; decide) (by rw [hz2]; decide) (by decide)
 have e1 : madeCells (Value.int .u8 0).cells ((256 : Int).toNat * 1) = ((List.replicate 256 (0 : Int)).map (fun x => Value.int .u8 x)).toArray := by
  apply Array.ext'
  rw [show (Value.int .u8 0).cells = #[Value.int .u8 0] from rfl, toList_madeCells_one, List.map_replicate]
  rfl
 rw [h, hz1, e1]
 rfl
set_option maxHeartbeats 8000000 in
theorem clone_calls (X : Nat → Prop) (v : Value) (xs : List Int) (w : World) (hX : ∀ k, X k → k < w.heap.size) (hv : PV kInt X w v xs) (hl : xs.length ≤ 1000000000) :
  Calls Tryd.prog 26 #[v] w fun e w' => ∃ v1, e = .returned v1 ∧ Own kInt 3 (Xp X v1) w' w.heap.size v1 xs ∧ Below w.heap.size w w' := by
 have H1 := Aside0.mk hv
 obtain ⟨A0, c0, rfl, _, hc⟩ := hv.now
 have HS := Aside0.mk (Sep.start hX)
 have q22 : ∀ (w : World) (a : Option Addr) (n c n' c' : Nat), (binOp .eql 25 (.slice a n c) (.slice none n' c')).run Tryd.prog w = .ok (.bool a.isNone) w := fun w a n c n' c' => Lib.run_eql_slice_nil w _ _ a n c n' c' Tryd.underlying25
 clear hv hX
 rcases A0 with _ | ad
 case none =>
  have h0 : xs = [] := by
   rcases Nat.eq_zero_or_pos xs.length with h0 | h0
   ·exact List.eq_nil_of_length_eq_zero h0
   ·obtain ⟨ad, h, _⟩ := hc.2.2 h0
    cases h
  subst h0
  clear hc
  have hs := HS.out.push_nil kInt 3
  go_enter Tryd.func26, Tryd.ntmps26
  go_wp2_with fail
  go_ret
  exact ⟨_, rfl, hs.res_own 0 rfl, hs.below⟩
 case some =>
  clear hc
  go_enter Tryd.func26, Tryd.ntmps26
  go_wp2_with (first
   | ((with_reducible refine gate_dst (N := 5) rfl ?_); refine slit_row kInt 3 ?hg (N := 5) ?hd (xs := ([] : List Int)) (inner := ([] : List Value)) ?hr HS.out ?hp (by simp) ?_; (case hd => rfl); (case hg => rfl); (case hr => first | (go_simp; done) | (go_simp; rfl)); (case hp => exact Reps.none _ _); clear HS; intro v30 w30 hs; have HS := Aside0.mk hs; clear hs)
   | ((with_reducible refine gate_builtin (b := .append) (xs := #[.tmp 5, .tmp 6]) rfl ?_); at_builtin; refine sgrow kInt 0 rfl (.tmp 5) (.tmp 6) 25 3 (.int .i64 0) 8 rfl Tryd.underlying25 info3' rfl (by decide) (by omega) _ _ ([] : List Int) xs rfl rfl HS.out rfl (HS.out.arg H1.out) (by rw [List.length_nil]; omega) ?_; clear HS; intro v1 w1 hs; have HS := Aside0.mk hs; clear hs))
  go_ret
  exact ⟨_, rfl, HS.out.res_own 0 rfl, HS.out.below⟩
end Go.Proofs.YtfbfeimildkigaaDoor.P
