/- One function of the given program as a plain Lean function, and the proof that the call comes to its answer; written by a program (mp.py). -/
import Derived.Test.YtndecknocmallaaPx0
import Derived.Test.YtndecknocmallaaPx1008
import Derived.Test.YtndecknocmallaaPx1009
import Derived.Test.YtndecknocmallaaPx1010
import Derived.Test.YtndecknocmallaaPx1013
import Derived.Test.YtndecknocmallaaLEnds
import Derived.Test.YtndecknocmallaaSL
namespace Go.Proofs.Ytndecknocmallaa.P
open Go.RowKit Go.Proofs.YtndecknocmallaaW.PrintWords Go.Proofs.YtndecknocmallaaW.PrintLast Go.Proofs.YtndecknocmallaaW.PrintMore
attribute [local go_sem] max2_int min2_int max_two min_two max_three min_three max_four min_four   -- for this text's walks alone
set_option linter.unusedVariables false
set_option linter.unusedSimpArgs false

/-! ### glyphcutterlaw21_LinesEnds: function 7 -/
def glyphcutterlaw21_LinesEnds.f (l0 : List Int) (a1 : Int) : Option Bool := if (∀ x ∈ l0, 0 ≤ x ∧ x ≤ 255) ∧ 0 ≤ a1 ∧ a1 ≤ 255 then some true else none
set_option maxHeartbeats 8000000 in
set_option maxRecDepth 100000 in
theorem glyphcutterlaw21_LinesEnds.calls (A0 : Option Addr) (c0 : Nat) (l0 : List Int) (a1 : Int) (r : Bool) (w : World) (hr0 : Kd.C (Kd.int .u8) w A0 l0.length l0) (hc0 : l0.length ≤ c0) (h : glyphcutterlaw21_LinesEnds.f l0 a1 = some r) :
    Calls Try.prog 7 #[.slice A0 l0.length c0, .int .u8 a1] w fun e w' => e = .returned (.bool r) ∧ Below w.heap.size w w' := by
  have HR0 := Aside0.mk hr0
  have HC0 := Aside0.mk hc0
  clear hr0 hc0
  have HB := Aside0.mk (Below.refl w.heap.size w)
  unfold glyphcutterlaw21_LinesEnds.f at h
  by_cases hg : (∀ x ∈ l0, 0 ≤ x ∧ x ≤ 255) ∧ 0 ≤ a1 ∧ a1 ≤ 255
  · rw [if_pos hg] at h
    obtain rfl := Option.some.inj h
    clear h
    have HG := Aside0.mk hg
    clear hg
    have ht : glyphcutterlaw20_Text.f l0 = some (textOf l0) := by unfold glyphcutterlaw20_Text.f; rw [if_pos]; exact HG.out.1
    have HT := Aside0.mk ht
    clear ht
    go_enter Try.func7, Try.ntmps7
    have HTL := Aside0.mk (textOf_len l0)
    go_wp2_with (first
      | (go_at_call 10; refine (glyphcutterlaw20_Text.calls _ _ l0 _ _ HR0.out HC0.out HT.out).mono ?_; rintro e w1 ⟨v, rfl, hv, hb1⟩; have HV := Aside0.mk hv; have HB1 := Aside0.mk hb1; clear hv hb1; obtain ⟨Ao, co, eo⟩ := Kd.V_slice HV.out; subst eo; have HW := Aside0.mk (Below.refl w1.heap.size w1))
      | ((with_reducible refine gate_dst (N := 15) rfl ?_); refine Kd.R_lit (Kd.int .u8) w1.heap.size 5 ?hg (N := 15) ?hd (xs := ([120] : List Int)) (inner := [.int .u8 120]) (ok := fun _ => True) (okp := fun _ => True) ?hr ?hp (fun _ hk => hk) trivial HW.out HW.out.size (by simp) ?_; (case hd => rfl); (case hg => rfl); (case hr => first | (go_simp; done) | (go_simp; rfl)); (case hp => exact (Reps.one (show Kd.M (Kd.int .u8) _ _ _ (120 : Int) [.int .u8 (120 : Int)] from rfl) (Reps.none _ _))); intro v_ w_ ho hb hg_ hnew_; clear hg_ hnew_; have HL1 := Aside0.mk ho; clear HW; have HW := Aside0.mk hb; clear ho hb; obtain ⟨Al, cl, el⟩ := Kd.R_slice HL1.out; subst el)
      | ((with_reducible refine gate_builtin (b := .append) (xs := #[.tmp 14, .tmp 15]) rfl ?_); at_builtin; refine Kd.R_append_rows (Kd.int .u8) (w0 := w1) w1.heap.size rfl (.tmp 14) (.tmp 15) 22 5 (.int .u8 0) 1 rfl Try.underlying22 info5 rfl (by decide) (by omega) (.slice none 0 0) [] [120] _ _ _ (fun _ => True) (fun _ => False) rfl rfl (Kd.R_nil _ _ _ _ _) ((Kd.R_reads' HL1.out).2.2) (fun _ _ h => h) (fun _ h => h.elim) (fun _ _ => trivial) HW.out HW.out.size (by have := HTL.out; simp; try omega) ?_; intro v_ w_ ho hb hg_ hat_; clear hg_ hat_; have HT1 := Aside0.mk ho; clear HW; have HW := Aside0.mk hb; clear ho hb; obtain ⟨At, ct, et⟩ := Kd.R_slice HT1.out; subst et)
      | ((with_reducible refine gate_builtin (b := .append) (xs := #[.tmp 17, .tmp 18]) rfl ?_); at_builtin; refine Kd.R_append_rows (Kd.int .u8) (w0 := w1) w1.heap.size rfl (.tmp 17) (.tmp 18) 22 5 (.int .u8 0) 1 rfl Try.underlying22 info5 rfl (by decide) (by omega) _ [120] (textOf l0) _ _ _ (fun _ => True) (fun _ => False) rfl rfl HT1.out ((Kd.V_reads' (Kd.V_below HV.out HW.out)).2.2) (fun _ _ h => h) (fun _ h => h.elim) (fun _ _ => trivial) HW.out HW.out.size (by have := HTL.out; simp; try omega) ?_; intro v_ w_ ho hb hg_ hat_; clear hg_ hat_; have HT2 := Aside0.mk ho; clear HW; have HW := Aside0.mk hb; clear ho hb; obtain ⟨At, ct, et⟩ := Kd.R_slice HT2.out; subst et)
      | ((with_reducible refine gate_dst (N := 21) rfl ?_); refine Kd.R_lit (Kd.int .u8) w1.heap.size 5 ?hg (N := 21) ?hd (xs := ([120] : List Int)) (inner := [.int .u8 120]) (ok := fun _ => True) (okp := fun _ => True) ?hr ?hp (fun _ hk => hk) trivial HW.out HW.out.size (by simp) ?_; (case hd => rfl); (case hg => rfl); (case hr => first | (go_simp; done) | (go_simp; rfl)); (case hp => exact (Reps.one (show Kd.M (Kd.int .u8) _ _ _ (120 : Int) [.int .u8 (120 : Int)] from rfl) (Reps.none _ _))); intro v_ w_ ho hb hg_ hnew_; have HT2b := Aside0.mk (Kd.R_grown HT2.out hg_ (fun k _ e => by cases e)); clear hg_ hnew_; have HL3 := Aside0.mk ho; clear HW; have HW := Aside0.mk hb; clear ho hb; obtain ⟨Al, cl, el⟩ := Kd.R_slice HL3.out; subst el)
      | ((with_reducible refine gate_builtin (b := .append) (xs := #[.tmp 20, .tmp 21]) rfl ?_); at_builtin; refine Kd.R_append_rows (Kd.int .u8) (w0 := w1) w1.heap.size rfl (.tmp 20) (.tmp 21) 22 5 (.int .u8 0) 1 rfl Try.underlying22 info5 rfl (by decide) (by omega) _ ([120] ++ textOf l0) [120] _ _ _ (fun _ => True) (fun _ => False) rfl rfl HT2b.out ((Kd.R_reads' HL3.out).2.2) (fun _ _ h => h) (fun _ h => h.elim) (fun _ _ => trivial) HW.out HW.out.size (by have := HTL.out; simp; try omega) ?_; intro v_ w_ ho hb hg_ hat_; clear hg_ hat_; have HT3 := Aside0.mk ho; clear HW; have HW := Aside0.mk hb; clear ho hb; obtain ⟨At, ct, et⟩ := Kd.R_slice HT3.out; subst et))
    have HBT := Aside0.mk (show U8.Bytes ([120] ++ textOf l0 ++ [120]) from by
      intro x hx
      simp only [List.mem_append, List.mem_singleton] at hx
      rcases hx with (rfl | hx) | rfl
      · omega
      · exact textOf_bytes l0 x hx
      · omega)
    have HLT := Aside0.mk (show ([120] ++ textOf l0 ++ [120]).length ≤ 162 from by have := HTL.out; simp; omega)
    have HLX := Aside0.mk (show List.getD (([120] : List Int) ++ textOf l0 ++ [120]) ((([120] : List Int) ++ textOf l0 ++ [120]).length - 1) (0 : Int) = 120 from by
      rw [U8.getD_app, if_neg (by simp)]; simp)
    rw [show (textOf l0).length + 1 + 1 = ([120] ++ textOf l0 ++ [120]).length by simp]
    generalize [120] ++ textOf l0 ++ [120] = t at HT3 HBT HLT HLX ⊢
    clear HL1 HT1 HT2 HT2b HL3
    have hcnt : ∀ s : List Int, U8.Bytes s → s.length ≤ 5000000000000 → lines_Count.f s = some (U8.lineN s) := by
      intro s hb hl
      unfold lines_Count.f
      have := U8.linesof_eq s hb hl s.length (Nat.le_refl _)
      generalize lines_Of.f s (s.length : Int) = A at this ⊢
      subst this
      rfl
    have HCNT := Aside0.mk hcnt
    clear hcnt
    refine (lines_Count.calls _ _ t _ _ (Kd.R_reads' HT3.out).2.2 (Kd.R_reads' HT3.out).2.1 (HCNT.out t HBT.out (by have := HLT.out; omega))).mono ?_
    rintro e w5 ⟨rfl, hb5⟩
    have HT5 := Aside0.mk (Kd.R_below HT3.out hb5)
    replace HW := Aside0.mk (below_step HW.out hb5)
    clear hb5 HT3
    have ha1 := HG.out.2
    have hmod : Int.tmod a1 3 = a1 % 3 := Int.tmod_eq_emod_of_nonneg ha1.1
    have hcs : (convert 22 9 (.slice At t.length ct)).run Try.prog (w5.alloc (.cells #[.string ⟨#[10]⟩, .string ⟨#[13]⟩, .string ⟨#[13, 10]⟩] 9)) = .ok (.string (strOfNums t)) (w5.alloc (.cells #[.string ⟨#[10]⟩, .string ⟨#[13]⟩, .string ⟨#[13, 10]⟩] 9)) :=
      Kd.C_string (P := Try.prog) (src := 22) (dst := 9) (c := ct) Try.underlying22 Try.underlying5 Try.underlying9 (Kd.C_alloc (Kd.R_reads' HT5.out).2.2 _)
    have hend : (w5.alloc (.cells #[.string ⟨#[10]⟩, .string ⟨#[13]⟩, .string ⟨#[13, 10]⟩] 9)).cell? ⟨w5.heap.size, (a1 % 3).toNat, none⟩ = some (.string (strOfNums (U8.endOf a1))) := by
      refine (blk_cell (blk_new w5 _) _).trans ?_
      unfold U8.endOf
      have : a1 % 3 = 0 ∨ a1 % 3 = 1 ∨ a1 % 3 = 2 := by omega
      rcases this with e | e | e <;> rw [e] <;> rfl
    have hadd := fun (w : World) => SL.str_add Try.prog w t (U8.endOf a1) (by have := HLT.out; unfold U8.endOf; split <;> (try split) <;> simp <;> omega)
    have m1 : 0 ≤ a1 % 3 := by omega
    have m2 : a1 % 3 < 3 := by omega
    have kc := fun (w : World) (s : ByteArray) => run_bytes_of_string (P := Try.prog) w 9 22 5 s Try.underlying9 Try.underlying22 Try.underlying5
    go_wp2_with fail
    simp only [SL.str_size]
    have hm := U8.of_more t HBT.out (by have := HLT.out; omega) 120 (.inr HLX.out) (by decide) (by decide) a1
    have HMB := Aside0.mk (U8.Bytes.append HBT.out (U8.endOf_bytes a1))
    have HML := Aside0.mk (show (t ++ U8.endOf a1).length ≤ 164 by have := HLT.out; have := U8.endOf_len a1; simp; omega)
    have hn1 := U8.lineN_more t 120 (.inr HLX.out) (by decide) (by decide) a1
    have hnx := U8.lineN_x t 120 (.inr HLX.out) (by decide) (by decide) a1
    generalize hmm : t ++ U8.endOf a1 = m at hm HMB HML hn1 hnx ⊢
    have hV := SL.bytes_V (w5.alloc (.cells #[.string ⟨#[10]⟩, .string ⟨#[13]⟩, .string ⟨#[13, 10]⟩] 9)) m _ 5 ((bytesRow (strOfNums m) (grownCap (w5.alloc (.cells #[.string ⟨#[10]⟩, .string ⟨#[13]⟩, .string ⟨#[13, 10]⟩] 9)) m.length 0 5)).size, (bytesRow (strOfNums m) (grownCap (w5.alloc (.cells #[.string ⟨#[10]⟩, .string ⟨#[13]⟩, .string ⟨#[13, 10]⟩] 9)) m.length 0 5)).size + 1) w.heap.size rfl HMB.out (by have := HML.out; omega)
    rw [show (w5.alloc (.cells #[.string ⟨#[10]⟩, .string ⟨#[13]⟩, .string ⟨#[13, 10]⟩] 9)).heap.size = w5.heap.size + 1 from Array.size_push ..] at hV
    have HWX := Aside0.mk (below_drew (below_alloc (below_alloc HW.out (.cells #[.string ⟨#[10]⟩, .string ⟨#[13]⟩, .string ⟨#[13, 10]⟩] 9)) (.cells (bytesRow (strOfNums m) (grownCap (w5.alloc (.cells #[.string ⟨#[10]⟩, .string ⟨#[13]⟩, .string ⟨#[13, 10]⟩] 9)) m.length 0 5)) 5 ((bytesRow (strOfNums m) (grownCap (w5.alloc (.cells #[.string ⟨#[10]⟩, .string ⟨#[13]⟩, .string ⟨#[13, 10]⟩] 9)) m.length 0 5)).size, (bytesRow (strOfNums m) (grownCap (w5.alloc (.cells #[.string ⟨#[10]⟩, .string ⟨#[13]⟩, .string ⟨#[13, 10]⟩] 9)) m.length 0 5)).size + 1))))
    refine (lines_Of.calls _ _ m _ _ _ _ (Kd.V_reads' hV).2.2 (Kd.V_reads' hV).2.1 hm).mono ?_
    rintro e w6 ⟨rfl, hb6⟩
    replace HW := Aside0.mk (below_step HWX.out hb6)
    clear hb6 HWX
    have HNB := Aside0.mk (show 1 ≤ U8.lineN t ∧ U8.lineN t ≤ 163 from by have := (U8.lbN_le t t.length).2.2; have := HLT.out; unfold U8.lineN; omega)
    have n1 := HNB.out.1
    have n2 := HNB.out.2
    go_wp2_with fail
    refine (glyphcutterlaw21_known.calls _ _ rfl).mono ?_
    rintro e w7 ⟨rfl, hb7⟩
    replace HW := Aside0.mk (below_step HW.out hb7)
    clear hb7
    go_wp2_with fail
    simp only [SL.str_size]
    have hV := SL.bytes_V w7 m _ 5 ((bytesRow (strOfNums m) (grownCap w7 m.length 0 5)).size, (bytesRow (strOfNums m) (grownCap w7 m.length 0 5)).size + 1) w.heap.size rfl HMB.out (by have := HML.out; omega)
    have HWX := Aside0.mk (below_drew (below_alloc HW.out (.cells (bytesRow (strOfNums m) (grownCap w7 m.length 0 5)) 5 ((bytesRow (strOfNums m) (grownCap w7 m.length 0 5)).size, (bytesRow (strOfNums m) (grownCap w7 m.length 0 5)).size + 1))))
    refine (lines_Count.calls _ _ m _ _ (Kd.V_reads' hV).2.2 (Kd.V_reads' hV).2.1 ((HCNT.out m HMB.out (by have := HML.out; omega)).trans (congrArg some hn1))).mono ?_
    rintro e w8 ⟨rfl, hb8⟩
    replace HW := Aside0.mk (below_step HWX.out hb8)
    clear hb8 HWX hV
    have hadd2 := fun (w : World) => SL.str_add Try.prog w m [120] (by have := HML.out; simp; omega)
    rw [show strOfNums [120] = ⟨#[120]⟩ from rfl] at hadd2
    go_wp2_with fail
    simp only [SL.str_size]
    have HMX := Aside0.mk (U8.Bytes.append HMB.out (show U8.Bytes [120] from by intro x hx; simp at hx; omega))
    have HLM := Aside0.mk (show (m ++ [120]).length ≤ 165 by have := HML.out; simp; omega)
    generalize m ++ [120] = mx at hnx HMX HLM ⊢
    have hV := SL.bytes_V w8 mx _ 5 ((bytesRow (strOfNums mx) (grownCap w8 mx.length 0 5)).size, (bytesRow (strOfNums mx) (grownCap w8 mx.length 0 5)).size + 1) w.heap.size rfl HMX.out (by have := HLM.out; omega)
    have HWX := Aside0.mk (below_drew (below_alloc HW.out (.cells (bytesRow (strOfNums mx) (grownCap w8 mx.length 0 5)) 5 ((bytesRow (strOfNums mx) (grownCap w8 mx.length 0 5)).size, (bytesRow (strOfNums mx) (grownCap w8 mx.length 0 5)).size + 1))))
    refine (lines_Count.calls _ _ mx _ _ (Kd.V_reads' hV).2.2 (Kd.V_reads' hV).2.1 ((HCNT.out mx HMX.out (by have := HLM.out; omega)).trans (congrArg some hnx))).mono ?_
    rintro e w9 ⟨rfl, hb9⟩
    replace HW := Aside0.mk (below_step HWX.out hb9)
    clear hb9 HWX hV
    go_wp2_with fail
    go_ret
    exact ⟨rfl, below_step HB1.out HW.out⟩
  · rw [if_neg hg] at h
    cases h


/-- THE ONE PURE STATEMENT of glyphcutterlaw21_LinesEnds: yours. -/
def glyphcutterlaw21_LinesEnds.Pure : Prop := ∀ (l0 : List Int) (a1 : Int), l0.length ≤ maxLen → l0.length * 1 ≤ 140737488351232 → (∀ x ∈ l0, (Lit.int .u8 x).wf = true) → (Lit.int .u8 a1).wf = true → glyphcutterlaw21_LinesEnds.f l0 a1 = some true
theorem glyphcutterlaw21_LinesEnds.walk (P : glyphcutterlaw21_LinesEnds.Pure) (a0 : Option Addr) (len0 cap0 : Nat) (z0 : List Int) (a1 : Int) (w : World) (w0 : (a0 = none ∧ len0 = 0 ∧ cap0 = 0 ∧ z0 = []) ∨ ∃ x, a0 = some x ∧ len0 ≤ cap0 ∧ cap0 ≤ maxLen ∧ z0.length = cap0 ∧ (∀ i, i < z0.length → w.cell? (x.add i) = some (.int .u8 (z0.getD i 0))) ∧ ∀ n ∈ z0, (Lit.int .u8 n).wf = true) (y0 : len0 * 1 ≤ 140737488351232) (w1 : (Lit.int .u8 a1).wf = true) :
    Calls Try.prog 7 #[.slice a0 len0 cap0, .int .u8 a1] w fun e w' => e = .returned (.bool true) ∧ Below w.heap.size w w' := by
  obtain ⟨l0, rfl, hr0, hm0, hw0, hc0⟩ := ReadsInt.ofRowC w0
  have h := P l0 a1 hm0 y0 hw0 w1
  refine (glyphcutterlaw21_LinesEnds.calls _ _ l0 a1 true w (Kd.C_of_reads (d := (0 : Int)) (h1 := fun _ => rfl) hr0) hc0 h).mono ?_
  rintro e w' ⟨rfl, hd⟩
  exact ⟨rfl, hd⟩

end Go.Proofs.Ytndecknocmallaa.P
