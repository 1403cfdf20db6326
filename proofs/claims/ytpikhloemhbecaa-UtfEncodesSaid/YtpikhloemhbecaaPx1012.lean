/- One function of the given program as a plain Lean function, and the proof that the call comes to its answer; written by a program (mp.py). -/
import Derived.Test.YtpikhloemhbecaaPx0
namespace Go.Proofs.Ytpikhloemhbecaa.P
open Go.RowKit Go.Proofs.YtpikhloemhbecaaW.PrintWords Go.Proofs.YtpikhloemhbecaaW.PrintLast Go.Proofs.YtpikhloemhbecaaW.PrintMore
attribute [local go_sem] max2_int min2_int max_two min_two max_three min_three max_four min_four   -- for this text's walks alone
set_option linter.unusedVariables false
set_option linter.unusedSimpArgs false

/-! ### utf_Encode: function 12 -/
def utf_Encode.l (a : Int) : List Int :=
  if a < 128 then [a] else if a < 2048 then [192 + a / 64, 128 + a % 64]
  else if a < 65536 then [224 + a / 4096, 128 + a / 64 % 64, 128 + a % 64]
  else [240 + a / 262144, 128 + a / 4096 % 64, 128 + a / 64 % 64, 128 + a % 64]
def utf_Encode.f (a : Int) : Option (List Int) :=
  if a < 0 ∨ 1114111 < a ∨ (55296 ≤ a ∧ a ≤ 57343) then some [] else some (utf_Encode.l a)
theorem utf_Encode.info : (Try.prog.info? 5).map (fun i => (i.zero, i.size, i.bytes)) = some (some (.int .u8 0), 1, 1) := by kernel_rfl
set_option maxHeartbeats 8000000 in
set_option maxRecDepth 100000 in
theorem utf_Encode.case0 (a0 : Int) (w : World) (h : 0 ≤ a0) (h1 : a0 < 128) :
    Calls Try.prog 12 #[.int .i64 a0] w fun e w' => ∃ v0_ : Value, e = .returned (v0_) ∧ Kd.R (Kd.int .u8) 5 w' w.heap.size (fun _ => True) v0_ [a0] ∧ Below w.heap.size w w' := by
  go_enter Try.func12, Try.ntmps12
  go_wp2_with (first | ((with_reducible refine gate_dst (N := 11) rfl ?_); refine Kd.R_lit (Kd.int .u8) w.heap.size 5 ?hg (N := 11) ?hd (xs := ([a0] : List Int)) (inner := [.int .u8 (a0)]) (ok := fun _ => True) (okp := fun _ => True) ?hr ?hp (fun _ hk => hk) trivial (Below.refl _ _) (Nat.le_refl _) (by simp) ?_; (case hd => rfl); (case hg => rfl); (case hr => first | (go_simp; done) | (go_simp; rfl)); (case hp => exact (Reps.one (show Kd.M (Kd.int .u8) _ _ _ (a0) [.int .u8 (a0)] from rfl) (Reps.none _ _))); intro v1 w1 ho hb hg_ hnew_; clear hg_ hnew_; have HO := Aside0.mk ho; have HB := Aside0.mk hb; clear ho hb; obtain ⟨Ao, co, eo⟩ := Kd.R_slice HO.out; subst eo) | ((with_reducible refine gate_builtin (b := .append) (xs := #[.tmp 8, .tmp 11]) rfl ?_); at_builtin; refine Kd.R_append_rows (Kd.int .u8) (w0 := w) w.heap.size rfl (.tmp 8) (.tmp 11) 23 5 (.int .u8 0) 1 rfl Try.underlying23 utf_Encode.info rfl (by decide) (by omega) (.slice none 0 0) [] ([a0] : List Int) _ _ _ (fun _ => True) (fun _ => False) rfl rfl (Kd.R_nil _ _ _ _ _) ((Kd.R_reads' HO.out).2.2) (fun _ _ h => h) (fun _ h => h.elim) (fun _ _ => trivial) HB.out HB.out.size (by simp) ?_; intro v2 w2 ho hb hg_ hat_; clear hg_ hat_ HO HB; have HO := Aside0.mk ho; have HB := Aside0.mk hb; clear ho hb) | go_in)
  go_ret
  exact ⟨_, rfl, HO.out, HB.out⟩
set_option maxHeartbeats 8000000 in
set_option maxRecDepth 100000 in
theorem utf_Encode.case1 (a0 : Int) (w : World) (h : 128 ≤ a0) (h1 : a0 < 2048) :
    Calls Try.prog 12 #[.int .i64 a0] w fun e w' => ∃ v0_ : Value, e = .returned (v0_) ∧ Kd.R (Kd.int .u8) 5 w' w.heap.size (fun _ => True) v0_ [192 + a0 / 64, 128 + a0 % 64] ∧ Below w.heap.size w w' := by
  go_enter Try.func12, Try.ntmps12
  go_wp2_with (first | ((with_reducible refine gate_dst (N := 23) rfl ?_); refine Kd.R_lit (Kd.int .u8) w.heap.size 5 ?hg (N := 23) ?hd (xs := ([192 + a0 / 64, 128 + a0 % 64] : List Int)) (inner := [.int .u8 (192 + a0 / 64), .int .u8 (128 + a0 % 64)]) (ok := fun _ => True) (okp := fun _ => True) ?hr ?hp (fun _ hk => hk) trivial (Below.refl _ _) (Nat.le_refl _) (by simp) ?_; (case hd => rfl); (case hg => rfl); (case hr => first | (go_simp; done) | (go_simp; rfl)); (case hp => exact (Reps.one (show Kd.M (Kd.int .u8) _ _ _ (192 + a0 / 64) [.int .u8 (192 + a0 / 64)] from rfl) (Reps.one (show Kd.M (Kd.int .u8) _ _ _ (128 + a0 % 64) [.int .u8 (128 + a0 % 64)] from rfl) (Reps.none _ _)))); intro v1 w1 ho hb hg_ hnew_; clear hg_ hnew_; have HO := Aside0.mk ho; have HB := Aside0.mk hb; clear ho hb; obtain ⟨Ao, co, eo⟩ := Kd.R_slice HO.out; subst eo) | ((with_reducible refine gate_builtin (b := .append) (xs := #[.tmp 14, .tmp 23]) rfl ?_); at_builtin; refine Kd.R_append_rows (Kd.int .u8) (w0 := w) w.heap.size rfl (.tmp 14) (.tmp 23) 23 5 (.int .u8 0) 1 rfl Try.underlying23 utf_Encode.info rfl (by decide) (by omega) (.slice none 0 0) [] ([192 + a0 / 64, 128 + a0 % 64] : List Int) _ _ _ (fun _ => True) (fun _ => False) rfl rfl (Kd.R_nil _ _ _ _ _) ((Kd.R_reads' HO.out).2.2) (fun _ _ h => h) (fun _ h => h.elim) (fun _ _ => trivial) HB.out HB.out.size (by simp) ?_; intro v2 w2 ho hb hg_ hat_; clear hg_ hat_ HO HB; have HO := Aside0.mk ho; have HB := Aside0.mk hb; clear ho hb) | go_in)
  go_ret
  exact ⟨_, rfl, HO.out, HB.out⟩
set_option maxHeartbeats 8000000 in
set_option maxRecDepth 100000 in
theorem utf_Encode.case20 (a0 : Int) (w : World) (h : 2048 ≤ a0) (h1 : a0 < 55296) :
    Calls Try.prog 12 #[.int .i64 a0] w fun e w' => ∃ v0_ : Value, e = .returned (v0_) ∧ Kd.R (Kd.int .u8) 5 w' w.heap.size (fun _ => True) v0_ [224 + a0 / 4096, 128 + a0 / 64 % 64, 128 + a0 % 64] ∧ Below w.heap.size w w' := by
  go_enter Try.func12, Try.ntmps12
  go_wp2_with (first | ((with_reducible refine gate_dst (N := 48) rfl ?_); refine Kd.R_lit (Kd.int .u8) w.heap.size 5 ?hg (N := 48) ?hd (xs := ([224 + a0 / 4096, 128 + a0 / 64 % 64, 128 + a0 % 64] : List Int)) (inner := [.int .u8 (224 + a0 / 4096), .int .u8 (128 + a0 / 64 % 64), .int .u8 (128 + a0 % 64)]) (ok := fun _ => True) (okp := fun _ => True) ?hr ?hp (fun _ hk => hk) trivial (Below.refl _ _) (Nat.le_refl _) (by simp) ?_; (case hd => rfl); (case hg => rfl); (case hr => first | (go_simp; done) | (go_simp; rfl)); (case hp => exact (Reps.one (show Kd.M (Kd.int .u8) _ _ _ (224 + a0 / 4096) [.int .u8 (224 + a0 / 4096)] from rfl) (Reps.one (show Kd.M (Kd.int .u8) _ _ _ (128 + a0 / 64 % 64) [.int .u8 (128 + a0 / 64 % 64)] from rfl) (Reps.one (show Kd.M (Kd.int .u8) _ _ _ (128 + a0 % 64) [.int .u8 (128 + a0 % 64)] from rfl) (Reps.none _ _))))); intro v1 w1 ho hb hg_ hnew_; clear hg_ hnew_; have HO := Aside0.mk ho; have HB := Aside0.mk hb; clear ho hb; obtain ⟨Ao, co, eo⟩ := Kd.R_slice HO.out; subst eo) | ((with_reducible refine gate_builtin (b := .append) (xs := #[.tmp 34, .tmp 48]) rfl ?_); at_builtin; refine Kd.R_append_rows (Kd.int .u8) (w0 := w) w.heap.size rfl (.tmp 34) (.tmp 48) 23 5 (.int .u8 0) 1 rfl Try.underlying23 utf_Encode.info rfl (by decide) (by omega) (.slice none 0 0) [] ([224 + a0 / 4096, 128 + a0 / 64 % 64, 128 + a0 % 64] : List Int) _ _ _ (fun _ => True) (fun _ => False) rfl rfl (Kd.R_nil _ _ _ _ _) ((Kd.R_reads' HO.out).2.2) (fun _ _ h => h) (fun _ h => h.elim) (fun _ _ => trivial) HB.out HB.out.size (by simp) ?_; intro v2 w2 ho hb hg_ hat_; clear hg_ hat_ HO HB; have HO := Aside0.mk ho; have HB := Aside0.mk hb; clear ho hb) | go_in)
  go_ret
  exact ⟨_, rfl, HO.out, HB.out⟩
set_option maxHeartbeats 8000000 in
set_option maxRecDepth 100000 in
theorem utf_Encode.case21 (a0 : Int) (w : World) (h : 57343 < a0) (h1 : a0 < 65536) :
    Calls Try.prog 12 #[.int .i64 a0] w fun e w' => ∃ v0_ : Value, e = .returned (v0_) ∧ Kd.R (Kd.int .u8) 5 w' w.heap.size (fun _ => True) v0_ [224 + a0 / 4096, 128 + a0 / 64 % 64, 128 + a0 % 64] ∧ Below w.heap.size w w' := by
  go_enter Try.func12, Try.ntmps12
  go_wp2_with (first | ((with_reducible refine gate_dst (N := 48) rfl ?_); refine Kd.R_lit (Kd.int .u8) w.heap.size 5 ?hg (N := 48) ?hd (xs := ([224 + a0 / 4096, 128 + a0 / 64 % 64, 128 + a0 % 64] : List Int)) (inner := [.int .u8 (224 + a0 / 4096), .int .u8 (128 + a0 / 64 % 64), .int .u8 (128 + a0 % 64)]) (ok := fun _ => True) (okp := fun _ => True) ?hr ?hp (fun _ hk => hk) trivial (Below.refl _ _) (Nat.le_refl _) (by simp) ?_; (case hd => rfl); (case hg => rfl); (case hr => first | (go_simp; done) | (go_simp; rfl)); (case hp => exact (Reps.one (show Kd.M (Kd.int .u8) _ _ _ (224 + a0 / 4096) [.int .u8 (224 + a0 / 4096)] from rfl) (Reps.one (show Kd.M (Kd.int .u8) _ _ _ (128 + a0 / 64 % 64) [.int .u8 (128 + a0 / 64 % 64)] from rfl) (Reps.one (show Kd.M (Kd.int .u8) _ _ _ (128 + a0 % 64) [.int .u8 (128 + a0 % 64)] from rfl) (Reps.none _ _))))); intro v1 w1 ho hb hg_ hnew_; clear hg_ hnew_; have HO := Aside0.mk ho; have HB := Aside0.mk hb; clear ho hb; obtain ⟨Ao, co, eo⟩ := Kd.R_slice HO.out; subst eo) | ((with_reducible refine gate_builtin (b := .append) (xs := #[.tmp 34, .tmp 48]) rfl ?_); at_builtin; refine Kd.R_append_rows (Kd.int .u8) (w0 := w) w.heap.size rfl (.tmp 34) (.tmp 48) 23 5 (.int .u8 0) 1 rfl Try.underlying23 utf_Encode.info rfl (by decide) (by omega) (.slice none 0 0) [] ([224 + a0 / 4096, 128 + a0 / 64 % 64, 128 + a0 % 64] : List Int) _ _ _ (fun _ => True) (fun _ => False) rfl rfl (Kd.R_nil _ _ _ _ _) ((Kd.R_reads' HO.out).2.2) (fun _ _ h => h) (fun _ h => h.elim) (fun _ _ => trivial) HB.out HB.out.size (by simp) ?_; intro v2 w2 ho hb hg_ hat_; clear hg_ hat_ HO HB; have HO := Aside0.mk ho; have HB := Aside0.mk hb; clear ho hb) | go_in)
  go_ret
  exact ⟨_, rfl, HO.out, HB.out⟩
set_option maxHeartbeats 8000000 in
set_option maxRecDepth 100000 in
theorem utf_Encode.case3 (a0 : Int) (w : World) (h : 65536 ≤ a0) (h1 : a0 ≤ 1114111) :
    Calls Try.prog 12 #[.int .i64 a0] w fun e w' => ∃ v0_ : Value, e = .returned (v0_) ∧ Kd.R (Kd.int .u8) 5 w' w.heap.size (fun _ => True) v0_ [240 + a0 / 262144, 128 + a0 / 4096 % 64, 128 + a0 / 64 % 64, 128 + a0 % 64] ∧ Below w.heap.size w w' := by
  go_enter Try.func12, Try.ntmps12
  go_wp2_with (first | ((with_reducible refine gate_dst (N := 76) rfl ?_); refine Kd.R_lit (Kd.int .u8) w.heap.size 5 ?hg (N := 76) ?hd (xs := ([240 + a0 / 262144, 128 + a0 / 4096 % 64, 128 + a0 / 64 % 64, 128 + a0 % 64] : List Int)) (inner := [.int .u8 (240 + a0 / 262144), .int .u8 (128 + a0 / 4096 % 64), .int .u8 (128 + a0 / 64 % 64), .int .u8 (128 + a0 % 64)]) (ok := fun _ => True) (okp := fun _ => True) ?hr ?hp (fun _ hk => hk) trivial (Below.refl _ _) (Nat.le_refl _) (by simp) ?_; (case hd => rfl); (case hg => rfl); (case hr => first | (go_simp; done) | (go_simp; rfl)); (case hp => exact (Reps.one (show Kd.M (Kd.int .u8) _ _ _ (240 + a0 / 262144) [.int .u8 (240 + a0 / 262144)] from rfl) (Reps.one (show Kd.M (Kd.int .u8) _ _ _ (128 + a0 / 4096 % 64) [.int .u8 (128 + a0 / 4096 % 64)] from rfl) (Reps.one (show Kd.M (Kd.int .u8) _ _ _ (128 + a0 / 64 % 64) [.int .u8 (128 + a0 / 64 % 64)] from rfl) (Reps.one (show Kd.M (Kd.int .u8) _ _ _ (128 + a0 % 64) [.int .u8 (128 + a0 % 64)] from rfl) (Reps.none _ _)))))); intro v1 w1 ho hb hg_ hnew_; clear hg_ hnew_; have HO := Aside0.mk ho; have HB := Aside0.mk hb; clear ho hb; obtain ⟨Ao, co, eo⟩ := Kd.R_slice HO.out; subst eo) | ((with_reducible refine gate_builtin (b := .append) (xs := #[.tmp 57, .tmp 76]) rfl ?_); at_builtin; refine Kd.R_append_rows (Kd.int .u8) (w0 := w) w.heap.size rfl (.tmp 57) (.tmp 76) 23 5 (.int .u8 0) 1 rfl Try.underlying23 utf_Encode.info rfl (by decide) (by omega) (.slice none 0 0) [] ([240 + a0 / 262144, 128 + a0 / 4096 % 64, 128 + a0 / 64 % 64, 128 + a0 % 64] : List Int) _ _ _ (fun _ => True) (fun _ => False) rfl rfl (Kd.R_nil _ _ _ _ _) ((Kd.R_reads' HO.out).2.2) (fun _ _ h => h) (fun _ h => h.elim) (fun _ _ => trivial) HB.out HB.out.size (by simp) ?_; intro v2 w2 ho hb hg_ hat_; clear hg_ hat_ HO HB; have HO := Aside0.mk ho; have HB := Aside0.mk hb; clear ho hb) | go_in)
  go_ret
  exact ⟨_, rfl, HO.out, HB.out⟩
set_option maxHeartbeats 8000000 in
set_option maxRecDepth 100000 in
theorem utf_Encode.neg (a0 : Int) (w : World) (h : a0 < 0) :
    Calls Try.prog 12 #[.int .i64 a0] w fun e w' => ∃ v0_ : Value, e = .returned (v0_) ∧ Kd.R (Kd.int .u8) 5 w' w.heap.size (fun _ => True) v0_ [] ∧ Below w.heap.size w w' := by
  go_enter Try.func12, Try.ntmps12
  go_wp2_with go_in
  all_goals
    go_ret
    exact ⟨_, rfl, Kd.R_nil _ _ _ _ _, Below.refl _ _⟩
set_option maxHeartbeats 8000000 in
set_option maxRecDepth 100000 in
theorem utf_Encode.high (a0 : Int) (w : World) (h : 1114111 < a0) :
    Calls Try.prog 12 #[.int .i64 a0] w fun e w' => ∃ v0_ : Value, e = .returned (v0_) ∧ Kd.R (Kd.int .u8) 5 w' w.heap.size (fun _ => True) v0_ [] ∧ Below w.heap.size w w' := by
  go_enter Try.func12, Try.ntmps12
  go_wp2_with go_in
  all_goals
    go_ret
    exact ⟨_, rfl, Kd.R_nil _ _ _ _ _, Below.refl _ _⟩
set_option maxHeartbeats 8000000 in
set_option maxRecDepth 100000 in
theorem utf_Encode.gap (a0 : Int) (w : World) (h : 55296 ≤ a0 ∧ a0 ≤ 57343) :
    Calls Try.prog 12 #[.int .i64 a0] w fun e w' => ∃ v0_ : Value, e = .returned (v0_) ∧ Kd.R (Kd.int .u8) 5 w' w.heap.size (fun _ => True) v0_ [] ∧ Below w.heap.size w w' := by
  go_enter Try.func12, Try.ntmps12
  go_wp2_with go_in
  all_goals
    go_ret
    exact ⟨_, rfl, Kd.R_nil _ _ _ _ _, Below.refl _ _⟩
theorem utf_Encode.calls (a0 : Int) (r : List Int) (w : World) (h : utf_Encode.f a0 = some r) :
    Calls Try.prog 12 #[.int .i64 a0] w fun e w' => ∃ v0_ : Value, e = .returned (v0_) ∧ Kd.R (Kd.int .u8) 5 w' w.heap.size (fun _ => True) v0_ r ∧ Below w.heap.size w w' := by
  unfold utf_Encode.f at h
  by_cases c : a0 < 0 ∨ 1114111 < a0 ∨ (55296 ≤ a0 ∧ a0 ≤ 57343)
  · rw [if_pos c] at h
    obtain rfl := Option.some.inj h
    rcases c with c | c | c
    · exact utf_Encode.neg a0 w c
    · exact utf_Encode.high a0 w c
    · exact utf_Encode.gap a0 w c
  · rw [if_neg c] at h
    obtain rfl := Option.some.inj h
    unfold utf_Encode.l
    by_cases c1 : a0 < 128
    · rw [if_pos c1]; exact utf_Encode.case0 a0 w (by omega) c1
    · rw [if_neg c1]
      by_cases c2 : a0 < 2048
      · rw [if_pos c2]; exact utf_Encode.case1 a0 w (by omega) c2
      · rw [if_neg c2]
        by_cases c3 : a0 < 65536
        · rw [if_pos c3]
          by_cases c4 : a0 < 55296
          · exact utf_Encode.case20 a0 w (by omega) c4
          · exact utf_Encode.case21 a0 w (by omega) c3
        · rw [if_neg c3]; exact utf_Encode.case3 a0 w (by omega) (by omega)


end Go.Proofs.Ytpikhloemhbecaa.P
