/- Part 27 of the proof: U6, T08a, T08. -/
import Derived.Lib.SliceRun
import Derived.Test.YtfbfeimildkigaaDoorCo25
import Derived.Test.YtfbfeimildkigaaDoorCo26
namespace Go.Proofs.YtfbfeimildkigaaDoor.P
open Go Go.RowKit Go.Proofs.YtfbfeimildkigaaDoorW.PrintWords Go.Proofs.YtfbfeimildkigaaDoor.PX
set_option linter.unusedVariables false
set_option linter.unusedSimpArgs false
set_option maxHeartbeats 2000000
theorem sameCol_self (next : List (List Int)) (a : Nat) : sameCol next a a = true := by rw [sameCol_iff]; intros; rfl
theorem col_some (next : List (List Int)) (c : Nat) : ∀ (l : List Int) (k : Nat), 0 ≤ colGo next c l k → (k : Int) ≤ colGo next c l k ∧ sameCol next c (l.getD ((colGo next c l k).toNat - k) 0).toNat = true
  | [], k, h => by rw [colGo] at h; omega
  | f :: t, k, h => by
    rw [colGo] at h ⊢
    split
    · next hs =>
      refine ⟨Int.le_refl _, ?_⟩
      rw [show ((k : Int).toNat - k) = 0 by omega]
      exact hs
    · next hs =>
      rw [if_neg hs] at h
      obtain ⟨h1, h2⟩ := col_some next c t (k + 1) h
      refine ⟨by omega, ?_⟩
      rw [show (colGo next c t (k + 1)).toNat - k = ((colGo next c t (k + 1)).toNat - (k + 1)) + 1 by omega, List.getD_cons_succ]
      exact h2
theorem col_none (next : List (List Int)) (c : Nat) : ∀ (l : List Int) (k : Nat), colGo next c l k < 0 → ∀ f ∈ l, sameCol next c f.toNat = false
  | [], k, h, f, hf => by cases hf
  | g :: t, k, h, f, hf => by
    rw [colGo] at h
    split at h
    · omega
    · next hs =>
      rcases List.mem_cons.1 hf with rfl | hf
      · simpa using hs
      · exact col_none next c t (k + 1) h f hf
theorem manyGo_snoc (x : Int) : ∀ (l : List Int) (n m : Int), 0 ≤ n → 0 ≤ m → manyGo l n = m → x ≤ m → manyGo (l ++ [x]) n = max m (x + 1)
  | [], n, m, _, _, h, hx => by
    rw [manyGo] at h
    subst h
    rw [List.nil_append, manyGo, if_neg (by omega), manyGo]
  | c :: t, n, m, h0, h1, h, hx => by
    rw [manyGo] at h
    rw [List.cons_append, manyGo]
    split at h
    · omega
    · next hc =>
      rw [if_neg hc]
      exact manyGo_snoc x t _ m (by omega) h1 h hx
structure ClIn (next : List (List Int)) (c : Nat) (p : List Int × List Int) : Prop where
  of_ : ∀ i, i < c → 0 ≤ p.2.getD i 0 ∧ p.2.getD i 0 < (p.1.length : Int) ∧ sameCol next i (p.1.getD (p.2.getD i 0).toNat 0).toNat = true
  len : p.2.length = c
  ne : ∀ j k, j < k → k < p.1.length → sameCol next (p.1.getD j 0).toNat (p.1.getD k 0).toNat = false
  many : manyGo p.2 0 = (p.1.length : Int)
theorem getD_app {l : List Int} {x : Int} {i : Nat} (h : i < l.length) : (l ++ [x]).getD i 0 = l.getD i 0 := by
  rw [List.getD_eq_getElem?_getD, List.getElem?_append_left h, ← List.getD_eq_getElem?_getD]
theorem getD_app_last (l : List Int) (x : Int) (i : Nat) (h : i = l.length) : (l ++ [x]).getD i 0 = x := by subst h; simp
theorem ClIn.step {next : List (List Int)} {c : Nat} {p : List Int × List Int} (h : ClIn next c p) : ClIn next (c + 1) (clStep next c p) := by
  have hl := colGo_lt next c p.1 0
  unfold clStep
  by_cases hc : colGo next c p.1 0 < 0
  · rw [if_pos hc]
    have hn := col_none next c p.1 0 hc
    refine ⟨fun i hi => ?_, by simp [h.len], fun j k hj hk => ?_, ?_⟩
    · dsimp only
      rw [List.length_append, List.length_singleton]
      by_cases e : i < c
      · have h1 := h.of_ i e
        rw [getD_app (by rw [h.len]; exact e), getD_app (by omega)]
        exact ⟨h1.1, by omega, h1.2.2⟩
      · obtain rfl : i = c := by omega
        rw [getD_app_last _ _ _ h.len.symm]
        refine ⟨by omega, by omega, ?_⟩
        rw [getD_app_last _ _ _ (by omega)]
        exact sameCol_self next _
    · dsimp only at hk ⊢
      rw [List.length_append, List.length_singleton] at hk
      by_cases e : k < p.1.length
      · rw [getD_app e, getD_app (by omega)]
        exact h.ne j k hj e
      · rw [getD_app_last p.1 _ k (by omega), getD_app (by omega), sameCol_comm]
        exact hn _ (mem_getD p.1 0 j (by omega))
    · dsimp only
      rw [manyGo_snoc _ p.2 0 _ (by omega) (by omega) h.many (Int.le_refl _), List.length_append, List.length_singleton]
      omega
  · rw [if_neg hc]
    have hs := col_some next c p.1 0 (by omega)
    refine ⟨fun i hi => ?_, by simp [h.len], h.ne, ?_⟩
    · dsimp only
      by_cases e : i < c
      · rw [getD_app (by rw [h.len]; exact e)]
        exact h.of_ i e
      · obtain rfl : i = c := by omega
        rw [getD_app_last _ _ _ h.len.symm]
        refine ⟨by omega, by omega, ?_⟩
        have := hs.2
        rw [Nat.sub_zero] at this
        exact this
    · dsimp only
      rw [manyGo_snoc _ p.2 0 _ (by omega) (by omega) h.many (by omega)]
      omega
theorem ClIn.go (next : List (List Int)) : ∀ (m c : Nat) (p : List Int × List Int), ClIn next c p → ClIn next (c + m) (clGo next m c p)
  | 0, c, p, hp => hp
  | m + 1, c, p, hp => by
    have := ClIn.go next m (c + 1) _ hp.step
    rw [show c + (m + 1) = c + 1 + m by omega]
    exact this
theorem classes_in (next : List (List Int)) : ClIn next 256 (classesL next) := by
  have := ClIn.go next 256 0 ([], []) ⟨fun i hi => (by omega), rfl, fun j k _ hk => (by simp at hk), rfl⟩
  rw [Nat.zero_add] at this
  exact this
theorem shortRow_at (fi row : List Int) (k : Nat) (h : k < fi.length) : (shortRow fi row).getD k 0 = row.getD (fi.getD k 0).toNat 0 := by
  simp [shortRow, List.getD_eq_getElem?_getD, h]
theorem short_same (fi : List Int) (next : List (List Int)) (a b : Nat) (ha : a < fi.length) (hb : b < fi.length) : sameCol (next.map (shortRow fi)) a b = sameCol next (fi.getD a 0).toNat (fi.getD b 0).toNat := by
  unfold sameCol
  rw [List.all_map]
  congr 1
  funext row
  simp only [Function.comp, shortRow_at _ _ _ ha, shortRow_at _ _ _ hb]
theorem classes_u8 (next : List (List Int)) : U8s (classesL next).2 := by
  have h := classes_ok next
  generalize classesL next = p at *
  intro c hc
  have h1 := h.of_.2 c hc
  have h2 := h.len
  omega
theorem tsound_of {next : List (List Int)} {tags : List Int} (hb : BSound next tags) : TSound (classesL next).2 (next.map (shortRow (classesL next).1)) tags := by
  have hi := classes_in next
  have hk := classes_ok next
  generalize classesL next = p at *
  have hm : many14 p.2 = (p.1.length : Int) := by
    unfold many14
    rw [if_neg (by rw [hi.many, hi.len]; omega), hi.many]
  unfold TSound
  rw [hm, Int.toNat_natCast]
  have h0 := hi.of_ 0 (by omega)
  refine ⟨⟨by omega, hb.1.1, hb.1.2.1, by rw [List.length_map]; exact hb.1.2.2⟩, fun i hi2 => ?_, fun a ha b hba => ?_⟩
  · have hin : i < next.length := by rw [hb.1.2.2]; exact hi2
    have e : (next.map (shortRow p.1)).getD i [] = shortRow p.1 (next.getD i []) := by simp [List.getD_eq_getElem?_getD, hin]
    unfold TRow
    rw [e]
    refine ⟨by simp [shortRow], (hb.2 i hi2).2.1, fun j hj => ?_⟩
    rw [shortRow_at _ _ _ hj]
    have := hk.f _ (mem_getD p.1 0 j hj)
    exact (hb.2 i hi2).2.2 _ (by omega)
  · rw [short_same _ _ _ _ ha (by omega), sameCol_comm]
    exact hi.ne b a hba ha
theorem back_row {next : List (List Int)} {row : List Int} (h : row ∈ next) (hl : row.length = 256) : backRow (classesL next).2 (shortRow (classesL next).1 row) = row := by
  have hi := classes_in next
  generalize classesL next = p at *
  refine List.ext_getElem? (fun c => ?_)
  rcases Nat.lt_or_ge c 256 with hc | hc
  · have h1 := hi.of_ c hc
    have hs := (List.all_eq_true.1 h1.2.2) row h
    unfold backRow
    rw [List.getElem?_map, List.getElem?_range hc, Option.map_some, shortRow_at _ _ _ (by omega), ← of_decide_eq_true hs, List.getD_eq_getElem?_getD, List.getElem?_eq_getElem (by omega), Option.getD_some]
  · rw [List.getElem?_eq_none (by simp [backRow]; omega), List.getElem?_eq_none (by omega)]
theorem back_of {next : List (List Int)} {tags : List Int} (hb : BSound next tags) : (next.map (shortRow (classesL next).1)).map (backRow (classesL next).2) = next := by
  rw [List.map_map]
  refine (List.map_congr_left (g := id) (fun row hr => ?_)).trans (List.map_id _)
  obtain ⟨i, hi, e⟩ := List.getElem_of_mem hr
  have h1 := (hb.2 i (by rw [← hb.1.2.2]; exact hi)).1
  rw [List.getD_eq_getElem?_getD, List.getElem?_eq_getElem hi, Option.getD_some, e] at h1
  exact back_row hr h1
theorem of14_good {next : List (List Int)} {tags : List Int} (hb : BSound next tags) : of14 next tags = (((classesL next).2, next.map (shortRow (classesL next).1), tags), 0) ∧ TSound (classesL next).2 (next.map (shortRow (classesL next).1)) tags ∧ back14 (classesL next).2 (next.map (shortRow (classesL next).1)) tags = ((next, tags), 0) := by
  have ht := tsound_of hb
  refine ⟨by rw [of14, if_pos hb], ht, ?_⟩
  rw [back14, if_pos ht, back_of hb]
end Go.Proofs.YtfbfeimildkigaaDoor.P
namespace Go.Proofs.YtfbfeimildkigaaDoor.PX
open Go Go.RowKit Go.Proofs.YtfbfeimildkigaaDoorW.PrintWords
theorem Sep.perm {X : Nat → Prop} {w0 w : World} {L L' : List Item} (h : Sep X w0 w L) (hp : L.Perm L') : Sep X w0 w L' := by
  refine ⟨fun a ha => Item.ok_step (h.ok a (hp.mem_iff.2 ha)) ?_ (fun k hk => .inr ⟨a, ha, hk⟩) (Agree.refl _ _) (fun _ _ => rfl), (hp.pairwise_iff (fun {_ _} hne => hne.symm)).1 h.ne, h.old, h.below⟩
  rintro k hk (hx | ⟨c, hc, hcb⟩)
  · exact .inl hx
  · exact .inr ⟨c, hp.mem_iff.2 hc, hcb⟩
theorem Sep.lit' {α : Type} {X : Nat → Prop} {w0 w : World} {L : List Item} {xs : List α} {inner : List Value} (HS : Sep X w0 w L) (b : Nat) (hb : b = w.heap.size) (d : Kd α) (e : Nat) (hrep : Reps (PK d (Ys X L) w) d.sz xs inner) (hm : xs.length ≤ 9223372036854775807) :
    Sep X w0 (w.alloc (.cells inner.toArray e)) (L ++ [.row d e (.slice (some ⟨b, 0, none⟩) xs.length xs.length) xs]) := by
  subst hb
  exact HS.lit d e hrep hm
section
variable {α : Type _} {L M : List α} {x y z : α}
theorem perm_xzy (h : L ++ [x, y, z] = M) : (L ++ [x] ++ [z] ++ [y]).Perm M := by
  subst h
  simp only [List.append_assoc, List.singleton_append]
  exact (List.Perm.cons _ (List.Perm.swap _ _ _)).append_left L
theorem perm_yxz (h : L ++ [x, y, z] = M) : (L ++ [y] ++ [x] ++ [z]).Perm M := by
  subst h
  simp only [List.append_assoc, List.singleton_append]
  exact (List.Perm.swap _ _ _).append_left L
theorem perm_yzx (h : L ++ [x, y, z] = M) : (L ++ [y] ++ [z] ++ [x]).Perm M := by
  subst h
  simp only [List.append_assoc, List.singleton_append]
  exact ((List.Perm.cons _ (List.Perm.swap _ _ _)).trans (List.Perm.swap _ _ _)).append_left L
theorem perm_zxy (h : L ++ [x, y, z] = M) : (L ++ [z] ++ [x] ++ [y]).Perm M := by
  subst h
  simp only [List.append_assoc, List.singleton_append]
  exact ((List.Perm.swap _ _ _).trans (List.Perm.cons _ (List.Perm.swap _ _ _))).append_left L
theorem perm_zyx (h : L ++ [x, y, z] = M) : (L ++ [z] ++ [y] ++ [x]).Perm M := by
  subst h
  simp only [List.append_assoc, List.singleton_append]
  exact (((List.Perm.cons _ (List.Perm.swap _ _ _)).trans (List.Perm.swap _ _ _)).trans (List.Perm.cons _ (List.Perm.swap _ _ _))).append_left L
end
end Go.Proofs.YtfbfeimildkigaaDoor.PX
namespace Go.Proofs.YtfbfeimildkigaaDoor.P
open Go Go.RowKit Go.Proofs.YtfbfeimildkigaaDoorW.PrintWords Go.Proofs.YtfbfeimildkigaaDoorW.PrintLast Go.Proofs.YtfbfeimildkigaaDoorW.PrintMore Go.Proofs.YtfbfeimildkigaaDoor.PX
set_option linter.unusedVariables false
set_option linter.unusedSimpArgs false
set_option maxRecDepth 100000
def z256 : List Value := (List.replicate 256 (0 : Int)).map (fun x => Value.int .u8 x)
theorem make256 (W : World) : (Instr.makeSlice 29 (.int .i64 256) (.int .i64 256)).run Tryd.prog W = .ok (.slice (some ⟨W.heap.size, 0, none⟩) 256 256) (W.alloc (.cells z256.toArray 5)) := by
  obtain ⟨i0, hi, hzz⟩ := Option.map_eq_some_iff.1 info5
  simp only [Prod.mk.injEq] at hzz
  obtain ⟨hz0, hz1, hz2⟩ := hzz
  have h := run_makeSlice (P := Tryd.prog) W 29 5 i0 (.int .u8 0) Tryd.underlying29 hi hz0 .i64 .i64 256 256 (by decide) (by decide) (by rw [hz1]; decide) (by rw [hz2]; decide) (by decide)
  have e1 : madeCells (Value.int .u8 0).cells ((256 : Int).toNat * 1) = ((List.replicate 256 (0 : Int)).map (fun x => Value.int .u8 x)).toArray := by
    apply Array.ext'
    rw [show (Value.int .u8 0).cells = #[Value.int .u8 0] from rfl, toList_madeCells_one, List.map_replicate]
    rfl
  rw [h, hz1, e1]
  rfl
set_option maxHeartbeats 8000000 in
theorem clone_calls (X : Nat → Prop) (v : Value) (xs : List Int) (w : World) (hX : ∀ k, X k → k < w.heap.size) (hv : PV kInt X w v xs) (hl : xs.length ≤ 1000000000) :
    Calls Tryd.prog 26 #[v] w fun e w' => ∃ v1, e = .returned v1 ∧ Own kInt 3 (Xp X v1) w' w.heap.size v1 xs ∧ Below w.heap.size w w' := by
  have H1 := Aside0.mk hv
  obtain ⟨A0, c0, rfl, _, hc⟩ := hv.now
  have HS := Aside0.mk (Sep.start hX)
  have q22 : ∀ (w : World) (a : Option Addr) (n c n' c' : Nat), (binOp .eql 25 (.slice a n c) (.slice none n' c')).run Tryd.prog w = .ok (.bool a.isNone) w := fun w a n c n' c' => Lib.run_eql_slice_nil w _ _ a n c n' c' Tryd.underlying25
  clear hv hX
  rcases A0 with _ | ad
  case none =>
    have h0 : xs = [] := by
      rcases Nat.eq_zero_or_pos xs.length with h0 | h0
      · exact List.eq_nil_of_length_eq_zero h0
      · obtain ⟨ad, h, _⟩ := hc.2.2 h0
        cases h
    subst h0
    clear hc
    have hs := HS.out.push_nil kInt 3
    go_enter Tryd.func26, Tryd.ntmps26
    go_wp2_with fail
    go_ret
    exact ⟨_, rfl, hs.res_own 0 rfl, hs.below⟩
  case some =>
    clear hc
    go_enter Tryd.func26, Tryd.ntmps26
    go_wp2_with (first
      | ((with_reducible refine gate_dst (N := 5) rfl ?_); refine slit_row kInt 3 ?hg (N := 5) ?hd (xs := ([] : List Int)) (inner := ([] : List Value)) ?hr HS.out ?hp (by simp) ?_; (case hd => rfl); (case hg => rfl); (case hr => first | (go_simp; done) | (go_simp; rfl)); (case hp => exact Reps.none _ _); clear HS; intro v30 w30 hs; have HS := Aside0.mk hs; clear hs)
      | ((with_reducible refine gate_builtin (b := .append) (xs := #[.tmp 5, .tmp 6]) rfl ?_); at_builtin; refine sgrow kInt 0 rfl (.tmp 5) (.tmp 6) 25 3 (.int .i64 0) 8 rfl Tryd.underlying25 info3' rfl (by decide) (by omega) _ _ ([] : List Int) xs rfl rfl HS.out rfl (HS.out.arg H1.out) (by rw [List.length_nil]; omega) ?_; clear HS; intro v1 w1 hs; have HS := Aside0.mk hs; clear hs))
    go_ret
    exact ⟨_, rfl, HS.out.res_own 0 rfl, HS.out.below⟩
end Go.Proofs.YtfbfeimildkigaaDoor.P
namespace Go.Proofs.YtfbfeimildkigaaDoor.P
open Go Go.RowKit Go.Proofs.YtfbfeimildkigaaDoorW.PrintWords Go.Proofs.YtfbfeimildkigaaDoorW.PrintLast Go.Proofs.YtfbfeimildkigaaDoorW.PrintMore Go.Proofs.YtfbfeimildkigaaDoor.PX Go.Proofs.YtfbfeimildkigaaDoor.IT
set_option linter.unusedVariables false
set_option linter.unusedSimpArgs false
set_option maxRecDepth 100000
theorem zero_int (w : World) : (zeroValue 3).run Tryd.prog w = .ok (.int .i64 0) w := by kernel_rfl
theorem bsound_fits {next : List (List Int)} {tags : List Int} (h : BSound next tags) (a : Nat) (ha : a < 256) : ∀ row ∈ next, a < row.length ∧ Fits (row.getD a 0) := by
  intro row hr
  obtain ⟨j, hj, e⟩ := List.getElem_of_mem hr
  have h1 := h.2 j (by have := h.1.2.2; omega)
  unfold BRow at h1
  rw [show next.getD j [] = row by rw [List.getD_eq_getElem?_getD, List.getElem?_eq_getElem hj]; exact e] at h1
  have h2 := h1.2.2 a ha
  have h3 := h.1.2.1
  unfold Fits
  omega
set_option maxHeartbeats 16000000 in
theorem cof_calls (X : Nat → Prop) (vn vt : Value) (next : List (List Int)) (tags : List Int) (w : World) (hX : ∀ k, X k → k < w.heap.size) (hn : PV kRow X w vn next) (ht : PV kInt X w vt tags) :
    Calls Tryd.prog 9 #[.agg #[vn, vt]] w fun e w' => ∃ v0 v1 v2, e = .returned (.tuple #[.agg #[v0, v1, v2], .int .u16 (of14 next tags).2]) ∧ PV kU8 X w' v0 (of14 next tags).1.1 ∧ PV kRow X w' v1 (of14 next tags).1.2.1 ∧ PV kInt X w' v2 (of14 next tags).1.2.2 ∧ Below w.heap.size w w' := by
  have H1 := Aside0.mk hn
  have H2 := Aside0.mk ht
  have m1 := hn.max
  have m2 := ht.max
  obtain ⟨An, cn, rfl, _, _⟩ := hn.now
  obtain ⟨At, ct, rfl, _, _⟩ := ht.now
  have HS := Aside0.mk (((Sep.start hX).push_box [.slice An next.length cn, .slice At tags.length ct] 27).push_box' [.slice none 0 0, .slice none 0 0, .slice none 0 0] 31 (w.heap.size + 1) (by simp))
  obtain ⟨q, hq⟩ : ∃ q, q = decide (BSound next tags) := ⟨_, rfl⟩
  have HQ := Aside0.mk hq.symm
  obtain ⟨r, hr⟩ : ∃ r, r = of14 next tags := ⟨_, rfl⟩
  rw [← hr]
  have HR := Aside0.mk (show r = if BSound next tags then (((classesL next).2, next.map (shortRow (classesL next).1), tags), 0) else (([], [], []), 1) from hr)
  clear hn ht hX hq hr
  go_enter Tryd.func9, Tryd.ntmps9
  go_upto_if 18 with (first
    | (go_at_call 25; (with_reducible refine (lsound_calls _ _ _ next tags _ HS.out.lt (HS.out.arg H1.out) (HS.out.arg H2.out)).mono ?_); rintro ee w5 ⟨rfl, hb⟩; rw [HQ.out]; have hs := HS.out.call hb; clear hb; clear HS; have HS := Aside0.mk hs; clear hs))
  obtain ⟨g1, hg1⟩ : ∃ g, g = w.heap.size + 1 := ⟨_, rfl⟩
  obtain ⟨g0, hg0⟩ : ∃ g, g = w.heap.size := ⟨_, rfl⟩
  rw [← hg1, ← hg0] at HS ⊢
  clear hg0 hg1
  have x0 := ((HS.out.box 1 rfl).cell 0 rfl)
  have x1 := ((HS.out.box 1 rfl).cell 1 rfl)
  have x2 := ((HS.out.box 1 rfl).cell 2 rfl)
  have f0 := (HS.out.box 1 rfl).open_ 0
  have f1 := (HS.out.box 1 rfl).open_ 1
  have f2 := (HS.out.box 1 rfl).open_ 2
  cases q
  case false =>
    have HE := Aside0.mk (show r = (([], [], []), 1) by rw [HR.out, if_neg (of_decide_eq_false HQ.out)])
    go_wp2_with fail
    have HSF := Aside0.mk (((HS.out.set_box 1 rfl 0 (.slice none 0 0)).set_box 1 rfl 1 (.slice none 0 0)).set_box 1 rfl 2 (.slice none 0 0))
    refine bodyPost_ret (results_ct rfl _ _ g1 31 #[.slice none 0 0, .slice none 0 0, .slice none 0 0] (0, 0) _ rfl (HSF.out.box 1 rfl) Tryd.underlying31 rfl (by kernel_rfl)) rfl ?_
    rw [HE.out]
    exact ⟨_, _, _, rfl, PV.nil _ _ _, PV.nil _ _ _, PV.nil _ _ _, HSF.out.below⟩
  case true =>
    have HSO := Aside0.mk (of_decide_eq_true HQ.out)
    have HNT := Aside0.mk (show next.length = tags.length ∧ tags.length ≤ 40000 from ⟨HSO.out.1.2.2, HSO.out.1.2.1⟩)
    have HFIT := Aside0.mk (bsound_fits HSO.out)
    have HROW := Aside0.mk (show ∀ row ∈ next, row.length = 256 from fun row hrow => by
      obtain ⟨i', hi', e'⟩ := List.getElem_of_mem hrow
      have h := (HSO.out.2 i' (by have := HNT.out; omega)).1
      rw [List.getD_eq_getElem?_getD, List.getElem?_eq_getElem hi', e'] at h
      exact h)
    obtain ⟨cl, hcl⟩ : ∃ c, c = classesL next := ⟨_, rfl⟩
    have HR2 := Aside0.mk (show r = ((cl.2, next.map (shortRow cl.1), tags), 0) by rw [HR.out, if_pos HSO.out, hcl])
    have HCL := Aside0.mk (show clGo next 256 0 ([], []) = cl from hcl.symm)
    have hmm := run_makeMap (P := Tryd.prog) 61 w5
    clear HR HSO HQ hcl x0 x1 x2 f0 f1 f2
    go_wp2_with fail
    have hs := HS.out.push_map Tryd.prog 9 3
    obtain ⟨gm, hgm⟩ : ∃ g, g = w5.heap.size := ⟨_, rfl⟩
    rw [← hgm] at hs ⊢
    obtain ⟨wa, hwa⟩ : ∃ x, x = w5.alloc (.map #[] 0) := ⟨_, rfl⟩
    rw [← hwa] at hs ⊢
    clear hgm hwa HS hmm
    have HS := Aside0.mk hs
    clear hs
    have mk := make256
    have hs := HS.out.drew
    clear HS; have HS := Aside0.mk hs; clear hs
    refine start_ (n := 7) (S := fun w' => w'.cell? ⟨g0, 1, none⟩ = some (.slice At tags.length ct)) (ds := [6]) #[false, false, false, false, false, false, false] (by kernel_rfl) rfl rfl (((HS.out.box 0 rfl).cell 1 rfl)) (fun hHeld => ?_)
    generalize wa.drew = wd at HS hHeld ⊢
    refine pure_ (i := 1) (N := some 22) (v := ?_) (a' := ?_) #[false, true, false, false, false, false, false] rfl rfl (by kernel_rfl) (fun _ _ _ h => h) (Or.inl ⟨by rfl, ?_⟩) ?_ ?_
    rotate_left
    · intro w'
      go_simp
      with_reducible rfl
    rotate_left
    · simp only [Act.put, List.setIfInBounds_toArray, List.set_cons_zero, List.set_cons_succ, i64_w, i32_w]
      rfl
    refine take_ (i := 2) (N := some 23) (v := ?_) (a' := ?_) #[false, true, true, false, false, false, false] rfl rfl (by kernel_rfl) (fun _ _ _ h => h) (Or.inl ⟨by rfl, ?_⟩) hHeld ?_ ?_
    rotate_left
    · intro w' s0
      go_simp
      with_reducible rfl
    rotate_left
    · simp only [Act.put, List.setIfInBounds_toArray, List.set_cons_zero, List.set_cons_succ, i64_w, i32_w]
      rfl
    refine join_ (σ := Value × Value × Nat) 1 #[true, true, true, true, true, true, false] (fun s => [(21, s.1), (24, s.2.1), (25, .agg #[s.1, .slice none 0 0, s.2.1]), (6, .pointer (some ⟨s.2.2, 0, none⟩))]) (fun s w' => PX.Sep X w w' ([.box g0 27 [.slice An next.length cn, .slice At tags.length ct], .box g1 31 [.slice none 0 0, .slice none 0 0, .slice none 0 0], .obj gm (MapO Tryd.prog 9 3 0 (.map [])), .row kU8 5 s.1 (List.replicate 256 0), .row kInt 3 s.2.1 tags, .box s.2.2 31 [.slice none 0 0, .slice none 0 0, .slice none 0 0]] : List PX.Item)) ?_ ?_
    rotate_left
    · intro hCont
      refine three_ (i := 0) (j := 3) (k := 5) (Ni := some 21) (Nj := some 24) (Nk := some 6) #[true, true, true, false, false, false, false] #[false, true, true, true, false, false, false] #[false, true, true, false, false, true, false] rfl rfl rfl rfl rfl rfl (by kernel_rfl) (by decide) (by decide) (by decide) (fun K hK => ?_) (fun K hK => ?_) (fun K hK => ?_)
      · skip
        refine value_ (w1 := ?_) (v := ?_) (by rfl) rfl ?_ ?_
        rotate_left 2
        · go_simp
          constructor
          · rfl
          · rfl
        have hs := HS.out.lit' (wd.heap.size) (by simp) kU8 5 (xs := List.replicate 256 0) (inner := z256) (reps_int _ _ _ _) (by simp)
        clear HS; have HS := Aside0.mk hs; clear hs
        refine hK.out _ _ (((HS.out.box 0 rfl).cell 1 rfl)) (fun hHeld => ?_)
        clear hK K
        refine norm_ (a' := ?_) ?_ ?_
        rotate_left
        · show Act.put _ (some 21) _ = _
          simp only [Act.put, List.setIfInBounds_toArray, List.set_cons_zero, List.set_cons_succ, i64_w, i32_w]
          rfl
        refine two_ (i := 3) (j := 5) (Ni := some 24) (Nj := some 6) #[true, true, true, true, false, false, false] #[true, true, true, false, false, true, false] rfl rfl rfl rfl (by kernel_rfl) (by decide) (by decide) (fun K hK => ?_) (fun K hK => ?_)
        · skip
          refine goes_ Tryd.func26 (by kernel_rfl) rfl #[.slice At tags.length ct] (by rfl) rfl rfl (by simp only [List.map_toArray, List.map_cons, List.map_nil]; rfl) ?_
          with_reducible refine (clone_calls _ _ tags _ HS.out.lt (HS.out.arg H2.out) (by have := HNT.out; omega)).mono ?_
          rintro e w6 ⟨v24, rfl, ho, hb6⟩
          refine ⟨_, rfl, ?_⟩
          obtain ⟨A24, c24, rfl, _⟩ := ho.now
          have hs := HS.out.push_row hb6 ho
          clear hb6 ho
          clear HS; have HS := Aside0.mk hs; clear hs
          refine hK.out _ _ (((HS.out.box 0 rfl).cell 1 rfl)) (fun hHeld => ?_)
          clear hK K
          refine norm_ (a' := ?_) ?_ ?_
          rotate_left
          · show Act.put _ (some 24) _ = _
            simp only [Act.put, List.setIfInBounds_toArray, List.set_cons_zero, List.set_cons_succ, i64_w, i32_w]
            rfl
          refine pure_ (i := 4) (N := some 25) (v := ?_) (a' := ?_) #[true, true, true, true, true, false, false] rfl rfl (by kernel_rfl) (fun _ _ _ h => h) (Or.inl ⟨by rfl, ?_⟩) ?_ ?_
          rotate_left
          · intro w'
            go_simp
            with_reducible rfl
          rotate_left
          · simp only [Act.put, List.setIfInBounds_toArray, List.set_cons_zero, List.set_cons_succ, i64_w, i32_w]
            rfl
          refine one_ (i := 5) (N := some 6) #[true, true, true, true, true, true, false] rfl rfl (by kernel_rfl) (by decide) (fun K hK => ?_)
          refine value_ (w1 := ?_) (v := ?_) (by rfl) rfl ?_ ?_
          rotate_left 2
          · go_simp
            constructor
            · rfl
            · rfl
          have hs := HS.out.push_box' [.slice none 0 0, .slice none 0 0, .slice none 0 0] 31 (w6.heap.size) (by simp)
          clear HS; have HS := Aside0.mk hs; clear hs
          refine hK.out _ _ (((HS.out.box 0 rfl).cell 1 rfl)) (fun hHeld => ?_)
          clear hK K
          refine norm_ (a' := ?_) ?_ ?_
          rotate_left
          · show Act.put _ (some 6) _ = _
            simp only [Act.put, List.setIfInBounds_toArray, List.set_cons_zero, List.set_cons_succ, i64_w, i32_w]
            rfl
          exact norm_ (by simp only [putAll, Act.put, List.setIfInBounds_toArray, List.set_cons_zero, List.set_cons_succ]) (hCont (.slice (some ⟨wd.heap.size, 0, none⟩) 256 256, .slice A24 tags.length c24, w6.heap.size) _ (HS.out))
        · skip
          refine value_ (w1 := ?_) (v := ?_) (by rfl) rfl ?_ ?_
          rotate_left 2
          · go_simp
            constructor
            · rfl
            · rfl
          have hs := HS.out.push_box' [.slice none 0 0, .slice none 0 0, .slice none 0 0] 31 (wd.heap.size + 1) (by simp)
          clear HS; have HS := Aside0.mk hs; clear hs
          refine hK.out _ _ (((HS.out.box 0 rfl).cell 1 rfl)) (fun hHeld => ?_)
          clear hK K
          refine norm_ (a' := ?_) ?_ ?_
          rotate_left
          · show Act.put _ (some 6) _ = _
            simp only [Act.put, List.setIfInBounds_toArray, List.set_cons_zero, List.set_cons_succ, i64_w, i32_w]
            rfl
          refine one_ (i := 3) (N := some 24) #[true, true, true, true, false, true, false] rfl rfl (by kernel_rfl) (by decide) (fun K hK => ?_)
          refine goes_ Tryd.func26 (by kernel_rfl) rfl #[.slice At tags.length ct] (by rfl) rfl rfl (by simp only [List.map_toArray, List.map_cons, List.map_nil]; rfl) ?_
          with_reducible refine (clone_calls _ _ tags _ HS.out.lt (HS.out.arg H2.out) (by have := HNT.out; omega)).mono ?_
          rintro e w6 ⟨v24, rfl, ho, hb6⟩
          refine ⟨_, rfl, ?_⟩
          obtain ⟨A24, c24, rfl, _⟩ := ho.now
          have hs := HS.out.push_row hb6 ho
          clear hb6 ho
          clear HS; have HS := Aside0.mk hs; clear hs
          refine hK.out _ _ (((HS.out.box 0 rfl).cell 1 rfl)) (fun hHeld => ?_)
          clear hK K
          refine norm_ (a' := ?_) ?_ ?_
          rotate_left
          · show Act.put _ (some 24) _ = _
            simp only [Act.put, List.setIfInBounds_toArray, List.set_cons_zero, List.set_cons_succ, i64_w, i32_w]
            rfl
          refine pure_ (i := 4) (N := some 25) (v := ?_) (a' := ?_) #[true, true, true, true, true, true, false] rfl rfl (by kernel_rfl) (fun _ _ _ h => h) (Or.inl ⟨by rfl, ?_⟩) ?_ ?_
          rotate_left
          · intro w'
            go_simp
            with_reducible rfl
          rotate_left
          · simp only [Act.put, List.setIfInBounds_toArray, List.set_cons_zero, List.set_cons_succ, i64_w, i32_w]
            rfl
          exact norm_ (by simp only [putAll, Act.put, List.setIfInBounds_toArray, List.set_cons_zero, List.set_cons_succ]) (hCont (.slice (some ⟨wd.heap.size, 0, none⟩) 256 256, .slice A24 tags.length c24, wd.heap.size + 1) _ (HS.out.perm (perm_xzy rfl)))
      · skip
        refine goes_ Tryd.func26 (by kernel_rfl) rfl #[.slice At tags.length ct] (by rfl) rfl rfl (by simp only [List.map_toArray, List.map_cons, List.map_nil]; rfl) ?_
        with_reducible refine (clone_calls _ _ tags _ HS.out.lt (HS.out.arg H2.out) (by have := HNT.out; omega)).mono ?_
        rintro e w6 ⟨v24, rfl, ho, hb6⟩
        refine ⟨_, rfl, ?_⟩
        obtain ⟨A24, c24, rfl, _⟩ := ho.now
        have hs := HS.out.push_row hb6 ho
        clear hb6 ho
        clear HS; have HS := Aside0.mk hs; clear hs
        refine hK.out _ _ (((HS.out.box 0 rfl).cell 1 rfl)) (fun hHeld => ?_)
        clear hK K
        refine norm_ (a' := ?_) ?_ ?_
        rotate_left
        · show Act.put _ (some 24) _ = _
          simp only [Act.put, List.setIfInBounds_toArray, List.set_cons_zero, List.set_cons_succ, i64_w, i32_w]
          rfl
        refine two_ (i := 0) (j := 5) (Ni := some 21) (Nj := some 6) #[true, true, true, true, false, false, false] #[false, true, true, true, false, true, false] rfl rfl rfl rfl (by kernel_rfl) (by decide) (by decide) (fun K hK => ?_) (fun K hK => ?_)
        · skip
          refine value_ (w1 := ?_) (v := ?_) (by rfl) rfl ?_ ?_
          rotate_left 2
          · go_simp
            constructor
            · rfl
            · rfl
          have hs := HS.out.lit' (w6.heap.size) (by simp) kU8 5 (xs := List.replicate 256 0) (inner := z256) (reps_int _ _ _ _) (by simp)
          clear HS; have HS := Aside0.mk hs; clear hs
          refine hK.out _ _ (((HS.out.box 0 rfl).cell 1 rfl)) (fun hHeld => ?_)
          clear hK K
          refine norm_ (a' := ?_) ?_ ?_
          rotate_left
          · show Act.put _ (some 21) _ = _
            simp only [Act.put, List.setIfInBounds_toArray, List.set_cons_zero, List.set_cons_succ, i64_w, i32_w]
            rfl
          refine pure_ (i := 4) (N := some 25) (v := ?_) (a' := ?_) #[true, true, true, true, true, false, false] rfl rfl (by kernel_rfl) (fun _ _ _ h => h) (Or.inl ⟨by rfl, ?_⟩) ?_ ?_
          rotate_left
          · intro w'
            go_simp
            with_reducible rfl
          rotate_left
          · simp only [Act.put, List.setIfInBounds_toArray, List.set_cons_zero, List.set_cons_succ, i64_w, i32_w]
            rfl
          refine one_ (i := 5) (N := some 6) #[true, true, true, true, true, true, false] rfl rfl (by kernel_rfl) (by decide) (fun K hK => ?_)
          refine value_ (w1 := ?_) (v := ?_) (by rfl) rfl ?_ ?_
          rotate_left 2
          · go_simp
            constructor
            · rfl
            · rfl
          have hs := HS.out.push_box' [.slice none 0 0, .slice none 0 0, .slice none 0 0] 31 (w6.heap.size + 1) (by simp)
          clear HS; have HS := Aside0.mk hs; clear hs
          refine hK.out _ _ (((HS.out.box 0 rfl).cell 1 rfl)) (fun hHeld => ?_)
          clear hK K
          refine norm_ (a' := ?_) ?_ ?_
          rotate_left
          · show Act.put _ (some 6) _ = _
            simp only [Act.put, List.setIfInBounds_toArray, List.set_cons_zero, List.set_cons_succ, i64_w, i32_w]
            rfl
          exact norm_ (by simp only [putAll, Act.put, List.setIfInBounds_toArray, List.set_cons_zero, List.set_cons_succ]) (hCont (.slice (some ⟨w6.heap.size, 0, none⟩) 256 256, .slice A24 tags.length c24, w6.heap.size + 1) _ (HS.out.perm (perm_yxz rfl)))
        · skip
          refine value_ (w1 := ?_) (v := ?_) (by rfl) rfl ?_ ?_
          rotate_left 2
          · go_simp
            constructor
            · rfl
            · rfl
          have hs := HS.out.push_box' [.slice none 0 0, .slice none 0 0, .slice none 0 0] 31 (w6.heap.size) (by simp)
          clear HS; have HS := Aside0.mk hs; clear hs
          refine hK.out _ _ (((HS.out.box 0 rfl).cell 1 rfl)) (fun hHeld => ?_)
          clear hK K
          refine norm_ (a' := ?_) ?_ ?_
          rotate_left
          · show Act.put _ (some 6) _ = _
            simp only [Act.put, List.setIfInBounds_toArray, List.set_cons_zero, List.set_cons_succ, i64_w, i32_w]
            rfl
          refine one_ (i := 0) (N := some 21) #[true, true, true, true, false, true, false] rfl rfl (by kernel_rfl) (by decide) (fun K hK => ?_)
          refine value_ (w1 := ?_) (v := ?_) (by rfl) rfl ?_ ?_
          rotate_left 2
          · go_simp
            constructor
            · rfl
            · rfl
          have hs := HS.out.lit' (w6.heap.size + 1) (by simp) kU8 5 (xs := List.replicate 256 0) (inner := z256) (reps_int _ _ _ _) (by simp)
          clear HS; have HS := Aside0.mk hs; clear hs
          refine hK.out _ _ (((HS.out.box 0 rfl).cell 1 rfl)) (fun hHeld => ?_)
          clear hK K
          refine norm_ (a' := ?_) ?_ ?_
          rotate_left
          · show Act.put _ (some 21) _ = _
            simp only [Act.put, List.setIfInBounds_toArray, List.set_cons_zero, List.set_cons_succ, i64_w, i32_w]
            rfl
          refine pure_ (i := 4) (N := some 25) (v := ?_) (a' := ?_) #[true, true, true, true, true, true, false] rfl rfl (by kernel_rfl) (fun _ _ _ h => h) (Or.inl ⟨by rfl, ?_⟩) ?_ ?_
          rotate_left
          · intro w'
            go_simp
            with_reducible rfl
          rotate_left
          · simp only [Act.put, List.setIfInBounds_toArray, List.set_cons_zero, List.set_cons_succ, i64_w, i32_w]
            rfl
          exact norm_ (by simp only [putAll, Act.put, List.setIfInBounds_toArray, List.set_cons_zero, List.set_cons_succ]) (hCont (.slice (some ⟨w6.heap.size + 1, 0, none⟩) 256 256, .slice A24 tags.length c24, w6.heap.size) _ (HS.out.perm (perm_yzx rfl)))
      · skip
        refine value_ (w1 := ?_) (v := ?_) (by rfl) rfl ?_ ?_
        rotate_left 2
        · go_simp
          constructor
          · rfl
          · rfl
        have hs := HS.out.push_box' [.slice none 0 0, .slice none 0 0, .slice none 0 0] 31 (wd.heap.size) (by simp)
        clear HS; have HS := Aside0.mk hs; clear hs
        refine hK.out _ _ (((HS.out.box 0 rfl).cell 1 rfl)) (fun hHeld => ?_)
        clear hK K
        refine norm_ (a' := ?_) ?_ ?_
        rotate_left
        · show Act.put _ (some 6) _ = _
          simp only [Act.put, List.setIfInBounds_toArray, List.set_cons_zero, List.set_cons_succ, i64_w, i32_w]
          rfl
        refine two_ (i := 0) (j := 3) (Ni := some 21) (Nj := some 24) #[true, true, true, false, false, true, false] #[false, true, true, true, false, true, false] rfl rfl rfl rfl (by kernel_rfl) (by decide) (by decide) (fun K hK => ?_) (fun K hK => ?_)
        · skip
          refine value_ (w1 := ?_) (v := ?_) (by rfl) rfl ?_ ?_
          rotate_left 2
          · go_simp
            constructor
            · rfl
            · rfl
          have hs := HS.out.lit' (wd.heap.size + 1) (by simp) kU8 5 (xs := List.replicate 256 0) (inner := z256) (reps_int _ _ _ _) (by simp)
          clear HS; have HS := Aside0.mk hs; clear hs
          refine hK.out _ _ (((HS.out.box 0 rfl).cell 1 rfl)) (fun hHeld => ?_)
          clear hK K
          refine norm_ (a' := ?_) ?_ ?_
          rotate_left
          · show Act.put _ (some 21) _ = _
            simp only [Act.put, List.setIfInBounds_toArray, List.set_cons_zero, List.set_cons_succ, i64_w, i32_w]
            rfl
          refine one_ (i := 3) (N := some 24) #[true, true, true, true, false, true, false] rfl rfl (by kernel_rfl) (by decide) (fun K hK => ?_)
          refine goes_ Tryd.func26 (by kernel_rfl) rfl #[.slice At tags.length ct] (by rfl) rfl rfl (by simp only [List.map_toArray, List.map_cons, List.map_nil]; rfl) ?_
          with_reducible refine (clone_calls _ _ tags _ HS.out.lt (HS.out.arg H2.out) (by have := HNT.out; omega)).mono ?_
          rintro e w6 ⟨v24, rfl, ho, hb6⟩
          refine ⟨_, rfl, ?_⟩
          obtain ⟨A24, c24, rfl, _⟩ := ho.now
          have hs := HS.out.push_row hb6 ho
          clear hb6 ho
          clear HS; have HS := Aside0.mk hs; clear hs
          refine hK.out _ _ (((HS.out.box 0 rfl).cell 1 rfl)) (fun hHeld => ?_)
          clear hK K
          refine norm_ (a' := ?_) ?_ ?_
          rotate_left
          · show Act.put _ (some 24) _ = _
            simp only [Act.put, List.setIfInBounds_toArray, List.set_cons_zero, List.set_cons_succ, i64_w, i32_w]
            rfl
          refine pure_ (i := 4) (N := some 25) (v := ?_) (a' := ?_) #[true, true, true, true, true, true, false] rfl rfl (by kernel_rfl) (fun _ _ _ h => h) (Or.inl ⟨by rfl, ?_⟩) ?_ ?_
          rotate_left
          · intro w'
            go_simp
            with_reducible rfl
          rotate_left
          · simp only [Act.put, List.setIfInBounds_toArray, List.set_cons_zero, List.set_cons_succ, i64_w, i32_w]
            rfl
          exact norm_ (by simp only [putAll, Act.put, List.setIfInBounds_toArray, List.set_cons_zero, List.set_cons_succ]) (hCont (.slice (some ⟨wd.heap.size + 1, 0, none⟩) 256 256, .slice A24 tags.length c24, wd.heap.size) _ (HS.out.perm (perm_zxy rfl)))
        · skip
          refine goes_ Tryd.func26 (by kernel_rfl) rfl #[.slice At tags.length ct] (by rfl) rfl rfl (by simp only [List.map_toArray, List.map_cons, List.map_nil]; rfl) ?_
          with_reducible refine (clone_calls _ _ tags _ HS.out.lt (HS.out.arg H2.out) (by have := HNT.out; omega)).mono ?_
          rintro e w6 ⟨v24, rfl, ho, hb6⟩
          refine ⟨_, rfl, ?_⟩
          obtain ⟨A24, c24, rfl, _⟩ := ho.now
          have hs := HS.out.push_row hb6 ho
          clear hb6 ho
          clear HS; have HS := Aside0.mk hs; clear hs
          refine hK.out _ _ (((HS.out.box 0 rfl).cell 1 rfl)) (fun hHeld => ?_)
          clear hK K
          refine norm_ (a' := ?_) ?_ ?_
          rotate_left
          · show Act.put _ (some 24) _ = _
            simp only [Act.put, List.setIfInBounds_toArray, List.set_cons_zero, List.set_cons_succ, i64_w, i32_w]
            rfl
          refine one_ (i := 0) (N := some 21) #[true, true, true, true, false, true, false] rfl rfl (by kernel_rfl) (by decide) (fun K hK => ?_)
          refine value_ (w1 := ?_) (v := ?_) (by rfl) rfl ?_ ?_
          rotate_left 2
          · go_simp
            constructor
            · rfl
            · rfl
          have hs := HS.out.lit' (w6.heap.size) (by simp) kU8 5 (xs := List.replicate 256 0) (inner := z256) (reps_int _ _ _ _) (by simp)
          clear HS; have HS := Aside0.mk hs; clear hs
          refine hK.out _ _ (((HS.out.box 0 rfl).cell 1 rfl)) (fun hHeld => ?_)
          clear hK K
          refine norm_ (a' := ?_) ?_ ?_
          rotate_left
          · show Act.put _ (some 21) _ = _
            simp only [Act.put, List.setIfInBounds_toArray, List.set_cons_zero, List.set_cons_succ, i64_w, i32_w]
            rfl
          refine pure_ (i := 4) (N := some 25) (v := ?_) (a' := ?_) #[true, true, true, true, true, true, false] rfl rfl (by kernel_rfl) (fun _ _ _ h => h) (Or.inl ⟨by rfl, ?_⟩) ?_ ?_
          rotate_left
          · intro w'
            go_simp
            with_reducible rfl
          rotate_left
          · simp only [Act.put, List.setIfInBounds_toArray, List.set_cons_zero, List.set_cons_succ, i64_w, i32_w]
            rfl
          exact norm_ (by simp only [putAll, Act.put, List.setIfInBounds_toArray, List.set_cons_zero, List.set_cons_succ]) (hCont (.slice (some ⟨w6.heap.size, 0, none⟩) 256 256, .slice A24 tags.length c24, wd.heap.size) _ (HS.out.perm (perm_zyx rfl)))
    rintro ⟨v21, v24, g2⟩ w7 hs
    clear hHeld
    clear HS; have HS := Aside0.mk hs; clear hs
    obtain ⟨gc, cc, ec0, _⟩ := HS.out.int 3 rfl 0 (by simp)
    have ec : v21 = .slice (some ⟨gc, 0, none⟩) 256 cc := ec0
    clear ec0
    subst ec
    obtain ⟨A24, c24, e24⟩ := HS.out.form 4 rfl
    subst e24
    have fz0 := (HS.out.box 5 rfl).open_ 0
    have fz1 := (HS.out.box 5 rfl).open_ 1
    have fz2 := (HS.out.box 5 rfl).open_ 2
    have yz0 := (HS.out.box 5 rfl).cell 0 rfl
    have yz1 := (HS.out.box 5 rfl).cell 1 rfl
    have yz2 := (HS.out.box 5 rfl).cell 2 rfl
    have hHeld : True := trivial
    refine norm_ (a' := ?_) ?_ ?_
    rotate_left
    · simp only [putAll, Act.put, List.setIfInBounds_toArray, List.set_cons_zero, List.set_cons_succ]
      rfl
    refine last_ (i := 6) (N := none) #[true, true, true, true, true, true, true] rfl rfl (by kernel_rfl) (by decide) (fun K hK => ?_)
    refine skip_ (w1 := ?_) (by rfl) rfl ?_ ?_
    rotate_left
    · go_simp
      rfl
    have hs := ((HS.out.set_box 5 rfl 0 (.slice (some ⟨gc, 0, none⟩) 256 cc)).set_box 5 rfl 1 (.slice none 0 0)).set_box 5 rfl 2 (.slice A24 tags.length c24)
    clear HS; have HS := Aside0.mk hs; clear hs
    refine hK.out _ _ ?_
    clear hK K
    refine done_ (by kernel_rfl) ?_
    obtain ⟨w8, hw8⟩ : ∃ x, x = ((w7.setCell ⟨g2, 0, none⟩ (.slice (some ⟨gc, 0, none⟩) 256 cc)).setCell ⟨g2, 1, none⟩ (.slice none 0 0)).setCell ⟨g2, 2, none⟩ (.slice A24 tags.length c24) := ⟨_, rfl⟩
    rw [← hw8] at HS ⊢
    clear hw8 fz0 fz1 fz2 yz0 yz1 yz2
    have hs := HS.out.push_nil kInt 3
    clear HS
    have HS := Aside0.mk hs
    clear hs
    go_wp2_with fail
    go_loopg [5, 7, 8, 9, 10, 26] 256 (fun m v5 v7 v8 v9 v10 v26 w' => ∃ (c : Nat) (p : List Int × List Int) (D : DataW Unit) (C : List Int), v26 = .int .i64 c ∧ Aside0 (c + m = 256) ∧ Aside0 (ClOk c p) ∧ Aside0 (clGo next m c p = cl) ∧ Aside0 (KnownD (keyL next) p.1 D) ∧ Aside0 (C = p.2 ++ List.replicate (256 - c) 0) ∧ Aside0 (Sep X w w' ([.box g0 27 [.slice An next.length cn, .slice At tags.length ct], .box g1 31 [.slice none 0 0, .slice none 0 0, .slice none 0 0], .obj gm (MapO Tryd.prog 9 3 c D), .row kU8 5 (.slice (some ⟨gc, 0, none⟩) 256 cc) C, .row kInt 3 (.slice A24 tags.length c24) tags, .box g2 31 [.slice (some ⟨gc, 0, none⟩) 256 cc, (.slice none 0 0), .slice A24 tags.length c24], .row kInt 3 v5 p.1] : List PX.Item)))
    case atStart => exact ⟨0, ([], []), .map [], _, rfl, ⟨by omega⟩, ⟨clok_nil⟩, HCL, ⟨KnownD.start _⟩, ⟨rfl⟩, HS⟩
    case round =>
      clear HS HCL
      obtain ⟨c, p, D, C, rfl, HJ, HP, HCL, HKD, HC, HS⟩ := hrel
      obtain ⟨A5, c5, e5⟩ := HS.out.form 6 rfl
      subst e5
      have y0 := (HS.out.box 0 rfl).cell 0 rfl
      cases gk with
      | zero =>
        have hc : c = 256 := by have := HJ.out; omega
        have e1 : decide ((c : Int) < 256) = false := decide_eq_false (by omega)
        have e2 : decide (c < 256) = false := decide_eq_false (by omega)
        have hcl : p = cl := HCL.out
        subst hcl
        have HC2 := Aside0.mk (show C = p.2 by rw [HC.out, hc, Nat.sub_self, List.replicate_zero, List.append_nil])
        have HPF := Aside0.mk (show ∀ x ∈ p.1, 0 ≤ x ∧ x < 256 from HP.out.f)
        have HFL := Aside0.mk (show p.1.length ≤ 256 by have := HP.out.len; omega)
        clear HCL HP HJ hc HC HKD
        go_wp2_with fail
        clear e1 e2 y0
        go_loopg [60] next.length (fun m v60 w' => ∃ (i : Nat) (vN : Value) (N : List (List Int)), v60 = .int .i64 i ∧ Aside0 (i + m = next.length) ∧ Aside0 (N = (next.take i).map (shortRow p.1)) ∧ Aside0 (Sep X w w' ([.box g0 27 [.slice An next.length cn, .slice At tags.length ct], .box g1 31 [.slice none 0 0, .slice none 0 0, .slice none 0 0], .obj gm (MapO Tryd.prog 9 3 c D), .row kU8 5 (.slice (some ⟨gc, 0, none⟩) 256 cc) C, .row kInt 3 (.slice A24 tags.length c24) tags, .box g2 31 [.slice (some ⟨gc, 0, none⟩) 256 cc, vN, .slice A24 tags.length c24], .row kInt 3 (.slice A5 p.1.length c5) p.1, .row kRow 25 vN N] : List PX.Item)))
        case atStart => exact ⟨0, _, [], rfl, ⟨by omega⟩, ⟨rfl⟩, ⟨HS.out.push_nil kRow 25⟩⟩
        case round =>
          clear HS
          obtain ⟨i, vN, N, rfl, HJ, HN, HS⟩ := hrel
          obtain ⟨A6, c6, e6⟩ := HS.out.form 7 rfl
          subst e6
          cases gk with
          | zero =>
            have hi : i = next.length := by have := HJ.out; omega
            have e1 : decide ((i : Int) < (next.length : Int)) = false := decide_eq_false (by omega)
            have e2 : decide (i < next.length) = false := decide_eq_false (by omega)
            have HRR := Aside0.mk (show r = ((C, N, tags), 0) by rw [HR2.out, HN.out, HC2.out, hi, List.take_length])
            clear HN HJ hi HR2
            have z0 := ((HS.out.box 5 rfl).cell 0 rfl)
            have z1 := ((HS.out.box 5 rfl).cell 1 rfl)
            have z2 := ((HS.out.box 5 rfl).cell 2 rfl)
            have x0 := ((HS.out.box 1 rfl).cell 0 rfl)
            have x1 := ((HS.out.box 1 rfl).cell 1 rfl)
            have x2 := ((HS.out.box 1 rfl).cell 2 rfl)
            have f0 := (HS.out.box 1 rfl).open_ 0
            have f1 := (HS.out.box 1 rfl).open_ 1
            have f2 := (HS.out.box 1 rfl).open_ 2
            go_wp2_with fail
            have HSF := Aside0.mk (((HS.out.set_box 1 rfl 0 (.slice (some ⟨gc, 0, none⟩) 256 cc)).set_box 1 rfl 1 (.slice A6 N.length c6)).set_box 1 rfl 2 (.slice A24 tags.length c24))
            refine bodyPost_ret (results_ct rfl _ _ g1 31 #[.slice (some ⟨gc, 0, none⟩) 256 cc, .slice A6 N.length c6, .slice A24 tags.length c24] (0, 0) _ rfl (HSF.out.box 1 rfl) Tryd.underlying31 rfl (by kernel_rfl)) rfl ?_
            rw [HRR.out]
            exact ⟨_, _, _, rfl, HSF.out.res_row 3 rfl, HSF.out.res_row 7 rfl, HSF.out.res_row 4 rfl, HSF.out.below⟩
          | succ k1 =>
            have hi : i < next.length := by have := HJ.out; omega
            have e1 : decide ((i : Int) < (next.length : Int)) = true := decide_eq_true (by omega)
            have e2 : decide (i < next.length) = true := decide_eq_true hi
            have hi0 : (0 : Int) ≤ (i : Int) := by omega
            have hi1 : (i : Int) < (next.length : Int) := by omega
            obtain ⟨an, cn', u, en, hu, yn⟩ := H1.out.row i hi
            cases en
            obtain ⟨Au, cu, rfl, _, _⟩ := hu.now
            have HU := Aside0.mk hu
            have yr := pw_cell_below HS.out.below yn
            have HRL := Aside0.mk (show (next.getD i []).length = 256 from HROW.out _ (mem_getD next [] i hi))
            have HN2 := Aside0.mk (show N ++ [shortRow p.1 (next.getD i [])] = (next.take (i + 1)).map (shortRow p.1) by rw [take_at next [] i hi, List.map_append, HN.out]; rfl)
            have HPL := Aside0.mk (show N.length + 1 ≤ 1000000 by rw [HN.out]; have := HNT.out; simp; omega)
            generalize next.getD i [] = row at *
            clear hu yn HN
            have hpl : p.1.length ≤ 256 := HFL.out
            go_wp2_with (first
              | ((with_reducible refine gate_dst (N := 66) rfl ?_); refine smake .i64 3 rfl (N := 66) rfl 25 (.tmp 65) (.tmp 65) rfl p.1.length rfl rfl Tryd.underlying25 8 info3' (by omega) (by omega) HS.out ?_; clear HS; intro v13 w13 hs; have HS := Aside0.mk hs; clear hs))
            clear yr e1 e2
            go_loopg [14, 15, 69] p.1.length (fun m v14 v15 v69 w' => ∃ (k : Nat) (R : List Int), v69 = .int .i64 k ∧ Aside0 (k + m = p.1.length) ∧ Aside0 (R = (p.1.take k).map (fun f => row.getD f.toNat 0) ++ List.replicate (p.1.length - k) 0) ∧ Aside0 (Sep X w w' ([.box g0 27 [.slice (some an) next.length cn, .slice At tags.length ct], .box g1 31 [.slice none 0 0, .slice none 0 0, .slice none 0 0], .obj gm (MapO Tryd.prog 9 3 c D), .row kU8 5 (.slice (some ⟨gc, 0, none⟩) 256 cc) C, .row kInt 3 (.slice A24 tags.length c24) tags, .box g2 31 [.slice (some ⟨gc, 0, none⟩) 256 cc, .slice A6 N.length c6, .slice A24 tags.length c24], .row kInt 3 (.slice A5 p.1.length c5) p.1, .row kRow 25 (.slice A6 N.length c6) N, .row kInt 3 v13 R] : List PX.Item)))
            case atStart => exact ⟨0, _, rfl, ⟨by omega⟩, ⟨rfl⟩, HS⟩
            case round =>
              clear HS
              obtain ⟨k, R, rfl, HC, HR, HS⟩ := hrel
              cases gk with
              | zero =>
                have hk : k = p.1.length := by have := HC.out; omega
                have e1 : decide ((k : Int) < (p.1.length : Int)) = false := decide_eq_false (by omega)
                have e2 : decide (k < p.1.length) = false := decide_eq_false (by omega)
                have q0 : R = shortRow p.1 row := by rw [HR.out, hk, List.take_length, Nat.sub_self, List.replicate_zero, List.append_nil]; rfl
                rw [← q0] at HN2
                clear HR q0 hk
                obtain ⟨A13, c13, e13⟩ := HS.out.form 8 rfl
                subst e13
                have hs := HS.out.sealRo 8 rfl
                clear HS
                have HS := Aside0.mk hs
                have y2 := ((HS.out.box 5 rfl).cell 1 rfl)
                clear hs
                go_wp2_with (first
                  | ((with_reducible refine gate_dst (N := 85) rfl ?_); refine slit kRow 25 ?hg (N := 85) ?hd (xs := [R]) (inner := [.slice A13 R.length c13]) ?hr HS.out ?hp (by simp) ?_; (case hd => rfl); (case hg => rfl); (case hr => first | (go_simp; done) | (go_simp; rfl)); (case hp => exact Reps.one (PK.slice (HS.out.ro 8 rfl)) (Reps.none _ _)); clear HS; intro v30 w30 hs; have HS := Aside0.mk hs; clear hs)
                  | ((with_reducible refine gate_builtin (b := .append) (xs := #[.tmp 83, .tmp 85]) rfl ?_); at_builtin; refine sgrow kRow 7 rfl (.tmp 83) (.tmp 85) 24 25 (.slice none 0 0) 24 rfl Tryd.underlying24 info25 rfl (by decide) (by omega) _ _ N [R] rfl rfl HS.out rfl (HS.out.ro 9 rfl) (by have := HPL.out; rw [List.length_singleton]; omega) ?_; clear HS; intro v1 w1 hs; obtain ⟨n1, hn1⟩ : ∃ q, q = N ++ [R] := ⟨_, rfl⟩; rw [← hn1] at hs; have HZn1 := Aside0.mk hn1; clear hn1; obtain ⟨A1, c1, e1⟩ := hs.form 7 rfl; subst e1; have hs := hs.take 8; have fz := (hs.box 5 rfl).open_ 1; have yz := (hs.box 5 rfl).cell 1 rfl; have HS := Aside0.mk hs; clear hs))
                have hs := HS.out.set_box 5 rfl 1 (.slice A1 n1.length c1)
                go_roundg k1
                case measure => omega
                case rel => exact ⟨i + 1, _, n1, by go_num, ⟨by have := HJ.out; omega⟩, ⟨by rw [HZn1.out]; exact HN2.out⟩, ⟨hs⟩⟩
              | succ m1 =>
                have hk : k < p.1.length := by have := HC.out; omega
                have e1 : decide ((k : Int) < (p.1.length : Int)) = true := decide_eq_true (by omega)
                have e2 : decide (k < p.1.length) = true := decide_eq_true hk
                have hk0 : (0 : Int) ≤ (k : Int) := by omega
                have hk1 : (k : Int) < (p.1.length : Int) := by omega
                have hfx := HPF.out _ (mem_getD p.1 0 k hk)
                obtain ⟨fn, hfn⟩ : ∃ n : Nat, p.1.getD k 0 = (n : Int) := ⟨(p.1.getD k 0).toNat, by omega⟩
                have hfr : fn < row.length := by have := HRL.out; omega
                have hf0 : (0 : Int) ≤ (fn : Int) := by omega
                have hf1 : (fn : Int) < (row.length : Int) := by omega
                obtain ⟨ar, cr, er, yr0⟩ := int_cell HU.out fn hfr
                cases er
                obtain ⟨gf, cf, ef, yf, _, _⟩ := HS.out.int 6 rfl k hk
                cases ef
                rw [hfn] at yf
                have hRL : R.length = p.1.length := by rw [HR.out]; simp; omega
                obtain ⟨gs, cs, es, ys, fs, hup⟩ := HS.out.int 8 rfl k (by omega)
                subst es
                have hRl1 : (k : Int) < (R.length : Int) := by omega
                have HUP := Aside0.mk hup
                have HSET := Aside0.mk (show R.set k (row.getD fn 0) = (p.1.take (k + 1)).map (fun f => row.getD f.toNat 0) ++ List.replicate (p.1.length - (k + 1)) 0 by
                  have hl : ((p.1.take k).map (fun f => row.getD f.toNat 0)).length = k := by simp; omega
                  rw [HR.out, List.set_append, if_neg (by omega), hl, Nat.sub_self, show p.1.length - k = (p.1.length - (k + 1)) + 1 by omega, List.replicate_succ, List.set_cons_zero, take_at p.1 0 k hk, List.map_append, List.append_assoc]
                  simp only [List.map_cons, List.map_nil, hfn, Int.toNat_natCast, List.singleton_append])
                have yr := pw_cell_below HS.out.below yr0
                generalize row.getD fn 0 = x at *
                clear yr0 HR hfn hfx hup hRL
                go_wp2_with fail
                have hs := HUP.out x
                go_roundg m1
                case measure => omega
                case rel => exact ⟨k + 1, _, by go_num, ⟨by have := HC.out; omega⟩, HSET, ⟨hs⟩⟩
      | succ k1 =>
        have hc : c < 256 := by have := HJ.out; omega
        have e1 : decide ((c : Int) < 256) = true := decide_eq_true (by omega)
        have e2 : decide (c < 256) = true := decide_eq_true hc
        have hc0 : (0 : Int) ≤ (c : Int) := by omega
        have hkey := key_string Tryd.underlying9 next c (by have := HNT.out; omega)
        have hcol := HKD.out.col (fun a ha row hr => (HFIT.out a ha row hr).2) HP.out.f hc p.1 0 (by omega) rfl (fun j hj => by omega)
        have HR1 := HCL.out
        rw [clGo, clStep] at HR1
        have hp2 := HP.out.step hc next
        rw [clStep] at hp2
        have ha := colGo_lt next c p.1 0
        obtain ⟨a, hca⟩ : ∃ a, a = colGo next c p.1 0 := ⟨_, rfl⟩
        rw [← hca] at HR1 hp2 ha hcol
        have hpl : p.1.length ≤ c := HP.out.len
        have hp2l : p.2.length = c := HP.out.of_.1
        have HCLEN := Aside0.mk (show C.length = 256 by rw [HC.out]; simp; omega)
        have HSET := Aside0.mk (show ∀ q : Int, C.set c q = (p.2 ++ [q]) ++ List.replicate (256 - (c + 1)) 0 from fun q => by
          rw [HC.out, List.set_append, if_neg (by omega), hp2l, Nat.sub_self, show 256 - c = (256 - (c + 1)) + 1 by omega, List.replicate_succ, List.set_cons_zero, List.append_assoc, List.singleton_append])
        clear hca hp2l
        rcases hcol with ⟨ha1, hhas⟩ | ⟨ha0, hhas, hat⟩
        case inr =>
          obtain ⟨k, hk⟩ : ∃ k : Nat, a = (k : Int) := ⟨a.toNat, by omega⟩
          subst hk
          have HHAS := Aside0.mk hhas
          have HAT := Aside0.mk hat
          have HP3 := Aside0.mk (show ClOk (c + 1) (p.1, p.2 ++ [(k : Int)]) by rwa [if_neg (by omega)] at hp2)
          have HR4 := Aside0.mk (show clGo next k1 (c + 1) (p.1, p.2 ++ [(k : Int)]) = cl by rwa [if_neg (by omega)] at HR1)
          have hk1 : (k : Int) < 256 := by omega
          have hk2 : k < 256 := by omega
          have hk0 : (0 : Int) ≤ (k : Int) := by omega
          clear HR1 hp2 ha ha0 hhas hat HCL HP
          go_wp2_with (first
            | (go_at_call 27; (with_reducible refine (column_calls _ _ next c _ HS.out.lt (HS.out.arg H1.out) (fun row hr => (HFIT.out c hc row hr).1) (fun row hr => (HFIT.out c hc row hr).2) (by have := HNT.out; omega)).mono ?_); rintro ee w9 ⟨rfl, hb⟩; have hs := HS.out.call hb; obtain ⟨gx, cx, ex, yc, fc, hup⟩ := hs.int 3 rfl c (by rw [HCLEN.out]; exact hc); obtain ⟨ex1, ex2, ex3⟩ := Value.slice.inj ex; clear ex2; cases ex1; cases ex3; have HUP := Aside0.mk hup; clear hb hup ex; have yb := (hs.box 5 rfl).cell 0 rfl; clear HS; have HS := Aside0.mk hs; clear hs)
            | (at_lookup; refine wpList_lookup_own_ok_int _ rfl _ _ 61 rfl 9 3 .i64 (Go.Maps.string_keyed Tryd.underlying9) Tryd.underlying61 Tryd.underlying3 (zero_int _) gm c D rfl (HS.out.map 2 rfl) _ (keyL next c) rfl hkey ?_; intro cv hcv _; rw [HHAS.out]; have hcv2 := (HAT.out (.lit (.int .i64 0))).symm.trans hcv; clear hcv; cases hcv2))
          have hs := HUP.out (k : Int)
          have hs2 := hs.set_map 2 rfl ((hs.map 2 rfl).mono (Nat.le_succ c)) (hs.map 2 rfl).turned_refl
          go_roundg k1
          case measure => omega
          case rel => exact ⟨c + 1, (p.1, p.2 ++ [(k : Int)]), D, _, by go_num, ⟨by have := HJ.out; omega⟩, HP3, HR4, HKD, ⟨HSET.out _⟩, ⟨hs2⟩⟩
        case inl =>
          subst ha1
          have HHAS := Aside0.mk hhas
          have HKD2 := Aside0.mk (HKD.out.step (keyL_key next c) hhas)
          have HP3 := Aside0.mk (show ClOk (c + 1) (p.1 ++ [(c : Int)], p.2 ++ [(p.1.length : Int)]) by rwa [if_pos (by decide)] at hp2)
          have HR4 := Aside0.mk (show clGo next k1 (c + 1) (p.1 ++ [(c : Int)], p.2 ++ [(p.1.length : Int)]) = cl by rwa [if_pos (by decide)] at HR1)
          have hk1 : (p.1.length : Int) < 256 := by omega
          have hk2 : p.1.length < 256 := by omega
          have hk0 : (0 : Int) ≤ (p.1.length : Int) := by omega
          have hcw : (Lit.int .i64 (p.1.length : Int)).wf = true := by simp [Lit.wf, IntKind.min, IntKind.max, IntKind.bits, IntKind.signed]; omega
          clear HR1 hp2 ha hhas HCL HP HKD
          go_wp2_with (first
            | (go_at_call 27; (with_reducible refine (column_calls _ _ next c _ HS.out.lt (HS.out.arg H1.out) (fun row hr => (HFIT.out c hc row hr).1) (fun row hr => (HFIT.out c hc row hr).2) (by have := HNT.out; omega)).mono ?_); rintro ee w9 ⟨rfl, hb⟩; have hs := HS.out.call hb; clear hb; clear HS; have HS := Aside0.mk hs; clear hs)
            | (at_lookup; refine wpList_lookup_own_ok_int _ rfl _ _ 61 rfl 9 3 .i64 (Go.Maps.string_keyed Tryd.underlying9) Tryd.underlying61 Tryd.underlying3 (zero_int _) gm c D rfl (HS.out.map 2 rfl) _ (keyL next c) rfl hkey ?_; intro cv hcv _; rw [HHAS.out])
            | (at_mapUpdate; refine wpList_mapUpdate_in _ rfl _ _ _ 61 rfl 9 3 (Go.Maps.string_keyed Tryd.underlying9) Tryd.underlying61 (plainElem Tryd.prog 3) gm c D rfl (HS.out.map 2 rfl) (by unfold maxLen; omega) _ _ _ rfl rfl hkey (.lit (.int .i64 (p.1.length : Int))) [] (plainElem_int Tryd.underlying3 hcw) ?_; intro w10 hown hturn; have hs := HS.out.set_map 2 rfl hown hturn; clear HS hown hturn; have HS := Aside0.mk hs; clear hs)
            | ((with_reducible refine gate_dst (N := 48) rfl ?_); refine slit kInt 3 ?hg (N := 48) ?hd (xs := [(c : Int)]) (inner := [.int .i64 (c : Int)]) ?hr HS.out ?hp (by simp) ?_; (case hd => rfl); (case hg => rfl); (case hr => first | (go_simp; done) | (go_simp; rfl)); (case hp => exact Reps.one (PK.scalar _) (Reps.none _ _)); clear HS; intro v30 w30 hs; have HS := Aside0.mk hs; clear hs)
            | ((with_reducible refine gate_builtin (b := .append) (xs := #[.tmp 46, .tmp 48]) rfl ?_); at_builtin; refine sgrow kInt 6 rfl (.tmp 46) (.tmp 48) 25 3 (.int .i64 0) 8 rfl Tryd.underlying25 info3' rfl (by decide) (by omega) _ _ p.1 [(c : Int)] rfl rfl HS.out rfl (HS.out.ro 7 rfl) (by rw [List.length_singleton]; omega) ?_; clear HS; intro v31 w31 hs; obtain ⟨F1, hF1⟩ : ∃ q, q = p.1 ++ [(c : Int)] := ⟨_, rfl⟩; rw [← hF1] at hs; have HZF1 := Aside0.mk hF1; clear hF1; obtain ⟨A3, c3, e3⟩ := hs.form 6 rfl; subst e3; have hs := hs.take 7; obtain ⟨gx, cx, ex, yc, fc, hup⟩ := hs.int 3 rfl c (by rw [HCLEN.out]; exact hc); obtain ⟨ex1, ex2, ex3⟩ := Value.slice.inj ex; clear ex2; cases ex1; cases ex3; have HUP := Aside0.mk hup; clear hup ex; have yb := (hs.box 5 rfl).cell 0 rfl; have HS := Aside0.mk hs; clear hs))
          have hs := HUP.out (p.1.length : Int)
          go_roundg k1
          case measure => omega
          case rel => exact ⟨c + 1, (F1, p.2 ++ [(p.1.length : Int)]), _, _, by go_num, ⟨by have := HJ.out; omega⟩, ⟨by rw [HZF1.out]; exact HP3.out⟩, ⟨by rw [HZF1.out]; exact HR4.out⟩, ⟨by rw [HZF1.out]; exact HKD2.out⟩, ⟨HSET.out _⟩, ⟨hs⟩⟩
end Go.Proofs.YtfbfeimildkigaaDoor.P
