/- One function of the given program as a plain Lean function, and the proof that the call comes to its answer; written by a program (mp.py). -/
import Derived.Test.YtndecknocmallaaPx0
import Derived.Test.YtndecknocmallaaPx1008
import Derived.Test.YtndecknocmallaaPx1009
import Derived.Test.YtndecknocmallaaPx1013
import Derived.Test.YtndecknocmallaaLCnt
import Derived.Test.YtndecknocmallaaSL
namespace Go.Proofs.Ytndecknocmallaa.P
open Go.RowKit Go.Proofs.YtndecknocmallaaW.PrintWords Go.Proofs.YtndecknocmallaaW.PrintLast Go.Proofs.YtndecknocmallaaW.PrintMore
attribute [local go_sem] max2_int min2_int max_two min_two max_three min_three max_four min_four   -- for this text's walks alone
set_option linter.unusedVariables false
set_option linter.unusedSimpArgs false

/-! ### glyphcutterlaw21_LinesCount: function 3 -/
def glyphcutterlaw21_LinesCount.f (l0 : List Int) : Option Bool := if (∀ x ∈ l0, 0 ≤ x ∧ x ≤ 255) then some true else none
set_option maxHeartbeats 8000000 in
set_option maxRecDepth 100000 in
theorem glyphcutterlaw21_LinesCount.calls (A0 : Option Addr) (c0 : Nat) (l0 : List Int) (r : Bool) (w : World) (hr0 : Kd.C (Kd.int .u8) w A0 l0.length l0) (hc0 : l0.length ≤ c0) (h : glyphcutterlaw21_LinesCount.f l0 = some r) :
    Calls Try.prog 3 #[.slice A0 l0.length c0] w fun e w' => e = .returned (.bool r) ∧ Below w.heap.size w w' := by
  have HR0 := Aside0.mk hr0
  have HC0 := Aside0.mk hc0
  clear hr0 hc0
  unfold glyphcutterlaw21_LinesCount.f at h
  by_cases hg : (∀ x ∈ l0, 0 ≤ x ∧ x ≤ 255)
  · rw [if_pos hg] at h
    obtain rfl := Option.some.inj h
    clear h
    have HG := Aside0.mk hg
    clear hg
    have kc := fun (w : World) (s : ByteArray) => run_bytes_of_string (P := Try.prog) w 9 22 5 s Try.underlying9 Try.underlying22 Try.underlying5
    go_enter Try.func3, Try.ntmps3
    by_cases c60 : (60 : Int) < (l0.length : Int)
    · have hd : decide ((60 : Int) < (l0.length : Int)) = true := decide_eq_true c60
      go_wp2_with fail
      refine (glyphcutterlaw21_known.calls _ _ rfl).mono ?_
      rintro e w1 ⟨rfl, hb1⟩
      go_wp2_with fail
      go_ret
      exact ⟨rfl, hb1⟩
    · have hd : decide ((60 : Int) < (l0.length : Int)) = false := decide_eq_false c60
      go_wp2_with fail
      refine (glyphcutterlaw21_known.calls _ _ rfl).mono ?_
      rintro e w1 ⟨rfl, hb1⟩
      have HB1 := Aside0.mk hb1
      clear hb1
      go_wp2_with fail
      go_loopg [3, 4] (l0.length) (fun m v4 v5 w' => ∃ (i : Nat), v4 = .string (strOfNums (U8.textC (l0.take i))) ∧ v5 = .int .i64 i ∧ Aside0 (i + m = l0.length) ∧ Aside0 (Below w1.heap.size w1 w'))
      case atStart => exact ⟨0, by simp [U8.textC, strOfNums], rfl, ⟨by omega⟩, ⟨Below.refl w1.heap.size w1⟩⟩
      case round =>
        obtain ⟨i, rfl, rfl, HI, HBq⟩ := hrel
        cases gk with
        | zero =>
          have hi : i = l0.length := by have := HI.out; omega
          subst hi
          rw [List.take_length]
          have hd1 : decide ((l0.length : Int) < (l0.length : Int)) = false := decide_eq_false (by omega)
          go_wp2_with fail
          simp only [SL.str_size]
          have hT := U8.textC_facts l0
          have hV := SL.bytes_V wr (U8.textC l0) _ 5 ((bytesRow (strOfNums (U8.textC l0)) (grownCap wr (U8.textC l0).length 0 5)).size, (bytesRow (strOfNums (U8.textC l0)) (grownCap wr (U8.textC l0).length 0 5)).size + 1) w.heap.size rfl hT.2 (by omega)
          have HWX := Aside0.mk (below_drew (below_alloc HBq.out (.cells (bytesRow (strOfNums (U8.textC l0)) (grownCap wr (U8.textC l0).length 0 5)) 5 ((bytesRow (strOfNums (U8.textC l0)) (grownCap wr (U8.textC l0).length 0 5)).size, (bytesRow (strOfNums (U8.textC l0)) (grownCap wr (U8.textC l0).length 0 5)).size + 1))))
          have hcnt : lines_Count.f (U8.textC l0) = some ((l0.length : Int) + 1) := by
            unfold lines_Count.f
            have := U8.linesof_eq (U8.textC l0) hT.2 (by omega) (U8.textC l0).length (Nat.le_refl _)
            have e : (U8.lbN (U8.textC l0) (U8.textC l0).length).1 = (l0.length : Int) + 1 := U8.textC_lineN l0
            rw [e] at this
            generalize lines_Of.f (U8.textC l0) ((U8.textC l0).length : Int) = A at this ⊢
            subst this
            rfl
          refine (lines_Count.calls _ _ (U8.textC l0) _ _ (Kd.V_reads' hV).2.2 (Kd.V_reads' hV).2.1 hcnt).mono ?_
          rintro e w8 ⟨rfl, hb8⟩
          go_wp2_with fail
          go_ret
          exact ⟨rfl, below_step HB1.out (below_step HWX.out hb8)⟩
        | succ k1 =>
          have hi1 : i < l0.length := by have := HI.out; omega
          have hd1 : decide ((i : Int) < (l0.length : Int)) = true := decide_eq_true (by omega)
          have p1 : (0 : Int) ≤ (i : Int) := by omega
          have p2 : (i : Int) < (l0.length : Int) := by omega
          obtain ⟨ad, ead, hx⟩ := Kd.at_int (Kd.C_below (Kd.C_below HR0.out HB1.out) HBq.out) (i : Int) p1 p2
          rw [Int.toNat_natCast] at hx
          have hR : 0 ≤ rd l0 i ∧ rd l0 i ≤ 255 := by
            have := HG.out (l0[i]) (List.getElem_mem hi1)
            simpa [rd, List.getD_eq_getElem?_getD, List.getElem?_eq_getElem hi1] using this
          have HTT := Aside0.mk (U8.textC_take l0 i hi1)
          have HLA := Aside0.mk (show (U8.textC (l0.take i)).length ≤ 360 from by (have := (U8.textC_facts (l0.take i)).1; have : (l0.take i).length ≤ 60 := (by rw [List.length_take]; omega); omega))
          have HKX := Aside0.mk (show ∀ o : Obj, (wr.alloc o).cell? (ad.add i) = some (.int .u8 (rd l0 i)) from by
            intro o
            obtain ⟨a2, e2, h2⟩ := Kd.at_int (Kd.C_alloc (Kd.C_below (Kd.C_below HR0.out HB1.out) HBq.out) o) (i : Int) p1 p2
            rw [ead] at e2
            cases e2
            rw [Int.toNat_natCast] at h2
            exact h2)
          generalize rd l0 i = x at hx hR HTT HKX
          subst ead
          have hm1 : Int.tmod x 4 = x % 4 := Int.tmod_eq_emod_of_nonneg hR.1
          have hm2 : Int.tdiv x 4 = x / 4 := Int.tdiv_eq_ediv_of_nonneg hR.1
          have hm3 : Int.tmod (x / 4) 3 = x / 4 % 3 := Int.tmod_eq_emod_of_nonneg (by omega)
          have q1 : 0 ≤ x % 4 := by omega
          have q2 : x % 4 ≤ 3 := by omega
          have q3 : 0 ≤ x / 4 := by omega
          have q4 : x / 4 ≤ 255 := by omega
          have q5 : 0 ≤ x / 4 % 3 := by omega
          have q6 : x / 4 % 3 < 3 := by omega
          have hT := U8.textC_facts (l0.take i)
          have hex : (⟨#[120, 121, 122]⟩ : ByteArray).extract 0 (x % 4).toNat = strOfNums (([120, 121, 122] : List Int).take (x % 4).toNat) := by
            have h1 : x % 4 = 0 ∨ x % 4 = 1 ∨ x % 4 = 2 ∨ x % 4 = 3 := by omega
            rcases h1 with h1 | h1 | h1 | h1 <;> rw [h1] <;> rfl
          have hlx : (([120, 121, 122] : List Int).take (x % 4).toNat).length ≤ 3 := by simp; omega
          have hadd1 := fun (w : World) => SL.str_add Try.prog w (U8.textC (l0.take i)) (([120, 121, 122] : List Int).take (x % 4).toNat) (by have := HLA.out; omega)
          have hle : (U8.endC (x / 4 % 3)).length ≤ 2 := by unfold U8.endC; split <;> (try split) <;> simp
          have hadd2 := fun (w : World) => SL.str_add Try.prog w (U8.textC (l0.take i) ++ ([120, 121, 122] : List Int).take (x % 4).toNat) (U8.endC (x / 4 % 3)) (by have := HLA.out; rw [List.length_append]; omega)
          have hend : ∀ w : World, (w.alloc (.cells #[.string ⟨#[10]⟩, .string ⟨#[13, 10]⟩, .string ⟨#[120, 13]⟩] 9)).cell? ⟨w.heap.size, (x / 4 % 3).toNat, none⟩ = some (.string (strOfNums (U8.endC (x / 4 % 3)))) := by
            intro w
            refine (blk_cell (blk_new w _) _).trans ?_
            unfold U8.endC
            have : x / 4 % 3 = 0 ∨ x / 4 % 3 = 1 ∨ x / 4 % 3 = 2 := by omega
            rcases this with e | e | e <;> rw [e] <;> rfl
          have HPC := Aside0.mk (show U8.piece x = ([120, 121, 122] : List Int).take (x % 4).toNat ++ U8.endC (x / 4 % 3) ++ (if x / 4 % 3 = 2 then [120] else []) from rfl)
          have hadd3 := fun (w : World) => SL.str_add Try.prog w (U8.textC (l0.take i) ++ (([120, 121, 122] : List Int).take (x % 4).toNat ++ U8.endC (x / 4 % 3))) [120] (by have := HLA.out; rw [List.length_append, List.length_append]; simp only [List.length_singleton]; omega)
          rw [show strOfNums [120] = ⟨#[120]⟩ from rfl] at hadd3
          generalize ([120, 121, 122] : List Int).take (x % 4).toNat = xs at hex hadd1 hadd2 hadd3 HPC
          have hw8 : IntKind.u8.wrap (x / 4) = x / 4 := by simp [IntKind.wrap, IntKind.bits, IntKind.signed]; omega
          have s1 : 0 ≤ Int.tmod (x / 4) 3 := by omega
          have s2 : Int.tmod (x / 4) 3 < 3 := by omega
          have hkx := HKX.out (.cells #[.string ⟨#[10]⟩, .string ⟨#[13, 10]⟩, .string ⟨#[120, 13]⟩] 9)
          go_wp2_with fail
          go_big_region
          have HBn := Aside0.mk (below_drew (below_alloc HBq.out (.cells #[.string ⟨#[10]⟩, .string ⟨#[13, 10]⟩, .string ⟨#[120, 13]⟩] 9)))
          by_cases c2 : x / 4 % 3 = 2
          · have cc : decide (x / 4 % 3 = 2) = true := decide_eq_true c2
            rw [c2] at hadd3
            go_wp2_with fail
            go_roundg k1
            case measure => omega
            case rel =>
              refine ⟨i + 1, ?_, by simp, ⟨by have := HI.out; omega⟩, HBn⟩
              rw [HTT.out, HPC.out, c2, if_pos rfl]
              simp only [List.append_assoc]
          · have cc : decide (x / 4 % 3 = 2) = false := decide_eq_false c2
            go_wp2_with fail
            go_roundg k1
            case measure => omega
            case rel =>
              refine ⟨i + 1, ?_, by simp, ⟨by have := HI.out; omega⟩, HBn⟩
              rw [HTT.out, HPC.out, if_neg c2]
              simp only [List.append_assoc, List.append_nil]
  · rw [if_neg hg] at h
    cases h


/-- THE ONE PURE STATEMENT of glyphcutterlaw21_LinesCount: yours. -/
def glyphcutterlaw21_LinesCount.Pure : Prop := ∀ (l0 : List Int), l0.length ≤ maxLen → l0.length * 1 ≤ 140737488351232 → (∀ x ∈ l0, (Lit.int .u8 x).wf = true) → glyphcutterlaw21_LinesCount.f l0 = some true
theorem glyphcutterlaw21_LinesCount.walk (P : glyphcutterlaw21_LinesCount.Pure) (a0 : Option Addr) (len0 cap0 : Nat) (z0 : List Int) (w : World) (w0 : (a0 = none ∧ len0 = 0 ∧ cap0 = 0 ∧ z0 = []) ∨ ∃ x, a0 = some x ∧ len0 ≤ cap0 ∧ cap0 ≤ maxLen ∧ z0.length = cap0 ∧ (∀ i, i < z0.length → w.cell? (x.add i) = some (.int .u8 (z0.getD i 0))) ∧ ∀ n ∈ z0, (Lit.int .u8 n).wf = true) (y0 : len0 * 1 ≤ 140737488351232) :
    Calls Try.prog 3 #[.slice a0 len0 cap0] w fun e w' => e = .returned (.bool true) ∧ Below w.heap.size w w' := by
  obtain ⟨l0, rfl, hr0, hm0, hw0, hc0⟩ := ReadsInt.ofRowC w0
  have h := P l0 hm0 y0 hw0
  refine (glyphcutterlaw21_LinesCount.calls _ _ l0 true w (Kd.C_of_reads (d := (0 : Int)) (h1 := fun _ => rfl) hr0) hc0 h).mono ?_
  rintro e w' ⟨rfl, hd⟩
  exact ⟨rfl, hd⟩

end Go.Proofs.Ytndecknocmallaa.P
