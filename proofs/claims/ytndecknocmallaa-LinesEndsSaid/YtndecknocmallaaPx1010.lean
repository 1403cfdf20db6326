/- One function of the given program as a plain Lean function, and the proof that the call comes to its answer; written by a program (mp.py). -/
import Derived.Test.YtndecknocmallaaPx0
import Derived.Test.YtndecknocmallaaSL
namespace Go.Proofs.Ytndecknocmallaa.P
open Go.RowKit Go.Proofs.YtndecknocmallaaW.PrintWords Go.Proofs.YtndecknocmallaaW.PrintLast Go.Proofs.YtndecknocmallaaW.PrintMore
attribute [local go_sem] max2_int min2_int max_two min_two max_three min_three max_four min_four   -- for this text's walks alone
set_option linter.unusedVariables false
set_option linter.unusedSimpArgs false

/-! ### glyphcutterlaw20_Text: function 10 -/
def textWords : List (List Int) := [[97], [98], [99], [97, 98], [97, 97, 98], [75], [107], [120], [50], [10], [13], [195, 169], [206, 177], [226, 132, 170], [46], [122], [255], [226, 130], [195], [240, 159, 152, 128], [49, 50], [98, 98, 98], [237, 160, 128], [32]]
def textWord (x : Int) : List Int := textWords.getD (x % 24).toNat []
def textOf (l : List Int) : List Int := (l.take 40).flatMap textWord
theorem textWord_len (x : Int) : (textWord x).length ≤ 4 := by
  unfold textWord
  have h : ∀ k, (textWords.getD k []).length ≤ 4 := by
    intro k
    by_cases hk : k < 24
    · revert k; decide
    · have : textWords.getD k [] = [] := by
        rw [List.getD_eq_getElem?_getD, List.getElem?_eq_none (by simp [textWords]; omega)]; rfl
      rw [this]; simp
  exact h _
theorem textWord_bytes (x : Int) : ∀ y ∈ textWord x, 0 ≤ y ∧ y ≤ 255 := by
  unfold textWord
  have h : ∀ k, k < 24 → ∀ y ∈ textWords.getD k [], 0 ≤ y ∧ y ≤ 255 := by decide
  exact h _ (by omega)
theorem textOf_bytes (l : List Int) : ∀ y ∈ textOf l, 0 ≤ y ∧ y ≤ 255 := by
  intro y hy
  obtain ⟨x, _, hx⟩ := List.mem_flatMap.1 hy
  exact textWord_bytes x y hx
theorem flat_len (l : List Int) : (l.flatMap textWord).length ≤ 4 * l.length := by
  induction l with
  | nil => simp
  | cons a t ih => rw [List.flatMap_cons, List.length_append, List.length_cons]; have := textWord_len a; omega
theorem textOf_len (l : List Int) : (textOf l).length ≤ 160 := by
  unfold textOf
  have := flat_len (l.take 40)
  have h : (l.take 40).length ≤ 40 := by simp; omega
  omega
theorem textOf_take (l : List Int) (i : Nat) (h : i < l.length) (h40 : i < 40) : textOf (l.take (i + 1)) = textOf (l.take i) ++ textWord (rd l i) := by
  unfold textOf
  rw [List.take_take, List.take_take, Nat.min_eq_right (by omega), Nat.min_eq_right (by omega), List.take_succ_eq_append_getElem h, List.flatMap_append]
  have : rd l i = l[i] := by simp [rd, List.getD_eq_getElem?_getD, List.getElem?_eq_getElem h]
  rw [this]; simp
def textRow : Array Value := #[.string ⟨#[97]⟩, .string ⟨#[98]⟩, .string ⟨#[99]⟩, .string ⟨#[97, 98]⟩, .string ⟨#[97, 97, 98]⟩, .string ⟨#[75]⟩, .string ⟨#[107]⟩, .string ⟨#[120]⟩, .string ⟨#[50]⟩, .string ⟨#[10]⟩, .string ⟨#[13]⟩, .string ⟨#[195, 169]⟩, .string ⟨#[206, 177]⟩, .string ⟨#[226, 132, 170]⟩, .string ⟨#[46]⟩, .string ⟨#[122]⟩, .string ⟨#[255]⟩, .string ⟨#[226, 130]⟩, .string ⟨#[195]⟩, .string ⟨#[240, 159, 152, 128]⟩, .string ⟨#[49, 50]⟩, .string ⟨#[98, 98, 98]⟩, .string ⟨#[237, 160, 128]⟩, .string ⟨#[32]⟩]
theorem textRow_at (x : Int) (h0 : 0 ≤ x) : textRow[(Int.tmod x 24).toNat]? = some (.string (strOfNums (textWord x))) := by
  unfold textWord
  rw [Int.tmod_eq_emod_of_nonneg h0]
  have h : ∀ k, k < 24 → textRow[k]? = some (.string (strOfNums (textWords.getD k []))) := by
    intro k hk
    have hc : k = 0 ∨ k = 1 ∨ k = 2 ∨ k = 3 ∨ k = 4 ∨ k = 5 ∨ k = 6 ∨ k = 7 ∨ k = 8 ∨ k = 9 ∨ k = 10 ∨ k = 11 ∨ k = 12 ∨ k = 13 ∨ k = 14 ∨ k = 15 ∨ k = 16 ∨ k = 17 ∨ k = 18 ∨ k = 19 ∨ k = 20 ∨ k = 21 ∨ k = 22 ∨ k = 23 := by omega
    rcases hc with rfl | rfl | rfl | rfl | rfl | rfl | rfl | rfl | rfl | rfl | rfl | rfl | rfl | rfl | rfl | rfl | rfl | rfl | rfl | rfl | rfl | rfl | rfl | rfl <;> rfl
  exact h _ (by omega)
def glyphcutterlaw20_Text.f (l0 : List Int) : Option (List Int) := if (∀ x ∈ l0, 0 ≤ x ∧ x ≤ 255) then some (textOf l0) else none
set_option maxHeartbeats 8000000 in
set_option maxRecDepth 100000 in
theorem glyphcutterlaw20_Text.calls (A0 : Option Addr) (c0 : Nat) (l0 : List Int) (r : List Int) (w : World) (hr0 : Kd.C (Kd.int .u8) w A0 l0.length l0) (hc0 : l0.length ≤ c0) (h : glyphcutterlaw20_Text.f l0 = some r) :
    Calls Try.prog 10 #[.slice A0 l0.length c0] w fun e w' => ∃ v0_ : Value, e = .returned v0_ ∧ Kd.V (Kd.int .u8) 5 w' w.heap.size (fun k_ => True) v0_ r ∧ Below w.heap.size w w' := by
  have HR0 := Aside0.mk hr0
  have HC0 := Aside0.mk hc0
  clear hr0 hc0
  have HB := Aside0.mk (Below.refl w.heap.size w)
  unfold glyphcutterlaw20_Text.f at h
  by_cases hg : (∀ x ∈ l0, 0 ≤ x ∧ x ≤ 255)
  · rw [if_pos hg] at h
    obtain rfl := Option.some.inj h
    clear h
    have HG := Aside0.mk hg
    clear hg
    have kc := fun (w : World) (s : ByteArray) => run_bytes_of_string (P := Try.prog) w 9 22 5 s Try.underlying9 Try.underlying22 Try.underlying5
    go_enter Try.func10, Try.ntmps10
    go_wp2
    have HROW := Aside0.mk (show (w.alloc (.cells textRow 9)).heap[w.heap.size]? = some (.cells textRow 9 (0, 0)) from blk_new w _)
    have HB1 := Aside0.mk (show Below w.heap.size w (w.alloc (.cells textRow 9)) from below_alloc HB.out _)
    change Code.wp _ _ _ _ (w.alloc (.cells textRow 9))
    generalize w.alloc (.cells textRow 9) = w1 at HROW HB1 ⊢
    go_loopg [4, 5] (min 40 l0.length) (fun m v4 v5 w' => ∃ (i : Nat), v4 = .string (strOfNums (textOf (l0.take i))) ∧ v5 = .int .i64 i ∧ Aside0 (i + m = min 40 l0.length) ∧ Aside0 (w'.heap[w.heap.size]? = some (.cells textRow 9 (0, 0))) ∧ Aside0 (Below w.heap.size w w'))
    case atStart => exact ⟨0, by simp [textOf, strOfNums], rfl, ⟨by omega⟩, HROW, HB1⟩
    case round =>
      clear HROW HB1
      obtain ⟨i, rfl, rfl, HI, HROW, HBq⟩ := hrel
      cases gk with
      | zero =>
        by_cases c1 : (i : Int) < (l0.length : Int)
        · have hd1 : decide ((i : Int) < (l0.length : Int)) = true := decide_eq_true c1
          have hd2 : decide ((i : Int) < 40) = false := decide_eq_false (by have := HI.out; omega)
          have HT := Aside0.mk (show textOf (l0.take i) = textOf l0 by
            have : i = 40 := by have := HI.out; omega
            subst this; unfold textOf; rw [List.take_take]; rfl)
          go_wp2
          go_ret
          refine ⟨_, rfl, ?_, ?_⟩
          · rw [HT.out]
            exact SL.bytes_V wr (textOf l0) _ _ _ _ (SL.str_size _) (textOf_bytes l0) (by have := textOf_len l0; omega)
          · exact below_drew (below_alloc HBq.out _)
        · have hd1 : decide ((i : Int) < (l0.length : Int)) = false := decide_eq_false c1
          have HT := Aside0.mk (show textOf (l0.take i) = textOf l0 by
            rw [List.take_of_length_le (by omega)])
          go_wp2
          go_ret
          refine ⟨_, rfl, ?_, ?_⟩
          · rw [HT.out]
            exact SL.bytes_V wr (textOf l0) _ _ _ _ (SL.str_size _) (textOf_bytes l0) (by have := textOf_len l0; omega)
          · exact below_drew (below_alloc HBq.out _)
      | succ k1 =>
        have hi1 : i < l0.length := by have := HI.out; omega
        have hi2 : i < 40 := by have := HI.out; omega
        have hd1 : decide ((i : Int) < (l0.length : Int)) = true := decide_eq_true (by omega)
        have hd2 : decide ((i : Int) < 40) = true := decide_eq_true (by omega)
        have p1 : (0 : Int) ≤ (i : Int) := by omega
        have p2 : (i : Int) < (l0.length : Int) := by omega
        obtain ⟨ad, ead, hx⟩ := Kd.at_int (Kd.C_below HR0.out HBq.out) (i : Int) p1 p2
        rw [Int.toNat_natCast] at hx
        have hR : 0 ≤ rd l0 i ∧ rd l0 i ≤ 255 := by
          have := HG.out (l0[i]) (List.getElem_mem hi1)
          simpa [rd, List.getD_eq_getElem?_getD, List.getElem?_eq_getElem hi1] using this
        have HTT := Aside0.mk (textOf_take l0 i hi1 hi2)
        have hc := (blk_cell HROW.out (Int.tmod (rd l0 i) 24).toNat).trans (textRow_at (rd l0 i) hR.1)
        have HLA := Aside0.mk (textOf_len (l0.take i))
        have HLB := Aside0.mk (textWord_len (rd l0 i))
        generalize rd l0 i = x at hx hR hc HTT HLB
        have hc2 := hc
        rw [Int.tmod_eq_emod_of_nonneg hR.1] at hc2
        have hw1 : wrap64 x = x := by unfold wrap64; omega
        have hw2 : wrap64 (Int.tmod x 24) = Int.tmod x 24 := by have := Int.tmod_eq_emod_of_nonneg (b := 24) hR.1; unfold wrap64; omega
        have q1 : 0 ≤ Int.tmod x 24 := by rw [Int.tmod_eq_emod_of_nonneg hR.1]; omega
        have q2 : Int.tmod x 24 < 24 := by rw [Int.tmod_eq_emod_of_nonneg hR.1]; omega
        have hw3 : wrap64 ((i : Int) + 1) = (i : Int) + 1 := by unfold wrap64; omega
        subst ead
        have hadd := fun (w : World) => SL.str_add Try.prog w (textOf (l0.take i)) (textWord x) (by have := HLA.out; have := HLB.out; omega)
        go_wp2
        go_roundg k1
        case measure => omega
        case rel => exact ⟨i + 1, by rw [HTT.out], by simp, ⟨by have := HI.out; omega⟩, HROW, HBq⟩
  · rw [if_neg hg] at h
    cases h


end Go.Proofs.Ytndecknocmallaa.P
