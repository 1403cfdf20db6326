/- RateCounts: the plain part: both ways of counting come to the same. -/
import Derived.Test.YtaacbjchjdjieaaGreatDoorPx1003
namespace Go.Proofs.YtaacbjchjdjieaaGreatDoor.P
open Go.RowKit Go.Proofs.YtaacbjchjdjieaaGreatDoorW.PrintWords Go.Proofs.YtaacbjchjdjieaaGreatDoorW.PrintLast
set_option linter.unusedVariables false
set_option linter.unusedSimpArgs false
abbrev Tok := S26
abbrev Cnt := S32
theorem wrap_id (n : Int) (h0 : -9223372036854775808 ≤ n) (h1 : n ≤ 9223372036854775807) : wrap64 n = n := by unfold wrap64; omega
def bump (x : Cnt) (t : Tok) : Cnt := ⟨wrap64 (x.f0 + 1), wrap64 (x.f1 + t.f2)⟩
def col (i : Int) : List Tok → Cnt → Cnt
  | [], x => x
  | t :: l, x => col i l (if t.f0 = i then bump x t else x)
theorem go_len (n : Int) : ∀ (l : List Tok) (out : List Cnt), (rate_Counts.go n l out).length = out.length
  | [], _ => rfl
  | t :: l, out => by rw [rate_Counts.go, go_len n l, rate_Counts.step_len]
theorem go_get (n : Int) : ∀ (l : List Tok) (out : List Cnt) (i : Nat), out.length = n.toNat → i < n.toNat → (rate_Counts.go n l out).getD i z32 = col i l (out.getD i z32)
  | [], _, _, _, _ => rfl
  | t :: l, out, i, hl, hi => by
    rw [rate_Counts.go, go_get n l _ i (by rw [rate_Counts.step_len]; exact hl) hi, col]
    congr 1
    unfold rate_Counts.step
    by_cases c : 0 ≤ t.f0 ∧ t.f0 < n
    · rw [if_pos c]
      by_cases c2 : t.f0 = (i : Int)
      · rw [if_pos c2, c2]
        simp [List.getD_eq_getElem?_getD, show i < out.length by omega, bump, rd_T32]
      · rw [if_neg c2]
        have : t.f0.toNat ≠ i := by omega
        simp [List.getD_eq_getElem?_getD, List.getElem?_set_ne this]
    · rw [if_neg c, if_neg (by omega)]
theorem l1_ev (n : Int) (i : Nat) (l : List Tok) (hl : l.length ≤ 4611686018427387904) (r : List Cnt) : ∀ (d j : Nat) (out : List Cnt), j + d = l.length → i < out.length →
    (Ev (fun k => glyphcutterref24_Counts.l0 k l n (out.set i (col i (l.drop j) (out.getD i z32))) (wrap64 ((i : Int) + 1))) r) → Ev (fun k => glyphcutterref24_Counts.l1 k l n out (i : Int) (j : Int)) r
  | 0, j, out, hd, hi, he => by
    obtain rfl : j = l.length := by omega
    refine Ev.step (fun k => ?_) he
    simp only [glyphcutterref24_Counts.l1]
    rw [if_neg (by omega)]
    congr 1
    rw [List.drop_length, col]
    apply List.ext_getElem (by simp)
    intro q h1 h2
    rw [List.getElem_set]
    split
    · rename_i e; subst e; simp [List.getD_eq_getElem?_getD, h1]
    · rfl
  | d + 1, j, out, hd, hi, he => by
    have hj : j < l.length := by omega
    have hw : wrap64 ((j : Int) + 1) = ((j + 1 : Nat) : Int) := by rw [wrap_id _ (by omega) (by omega)]; rfl
    have hdr := rate_Counts.drop_at l j hj
    by_cases c : (rd_T26 l (j : Int)).f0 = (i : Int)
    · have hset : ∀ x : Cnt, (out.set i x).getD i z32 = x := fun x => by simp [List.getD_eq_getElem?_getD, hi]
      refine Ev.step (f := fun k => glyphcutterref24_Counts.l1 k l n (out.set i (bump (out.getD i z32) (rd_T26 l (j : Int)))) (i : Int) ((j + 1 : Nat) : Int)) (fun k => ?_) (l1_ev n i l hl r d (j + 1) _ (by omega) (by simpa using hi) ?_)
      · simp only [glyphcutterref24_Counts.l1]
        rw [if_pos (by omega), if_pos (by omega), if_pos c, if_pos (by omega), if_pos (by omega), Option.bind_some, hw]
        congr 1
        simp only [rd_T32, Int.toNat_natCast, hset, List.set_set]
        rfl
      · rw [hdr, col, if_pos c] at he
        rw [List.set_set, hset]
        exact he
    · refine Ev.step (f := fun k => glyphcutterref24_Counts.l1 k l n out (i : Int) ((j + 1 : Nat) : Int)) (fun k => ?_) (l1_ev n i l hl r d (j + 1) _ (by omega) hi ?_)
      · simp only [glyphcutterref24_Counts.l1]
        rw [if_pos (by omega), if_pos (by omega), if_neg c, hw]
      · rw [hdr, col, if_neg c] at he
        exact he
theorem l0_ev (n : Int) (hn : n ≤ 30) (l : List Tok) (hl : l.length ≤ 4611686018427387904) (r : List Cnt) : ∀ (d i : Nat) (out : List Cnt), i + d = n.toNat → out.length = n.toNat → r.length = n.toNat →
    (∀ q, q < i → out.getD q z32 = r.getD q z32) → (∀ q, i ≤ q → q < n.toNat → r.getD q z32 = col q l (out.getD q z32)) → 1 ≤ n → Ev (fun k => glyphcutterref24_Counts.l0 k l n out (i : Int)) r
  | 0, i, out, hd, ho, hr, h1, h2, hp => by
    have : out = r := by
      apply List.ext_getElem (by omega)
      intro q q1 q2
      have := h1 q (by omega)
      simpa [List.getD_eq_getElem?_getD, q1, q2] using this
    subst this
    refine Ev.step (fun k => ?_) (Ev.now out)
    simp only [glyphcutterref24_Counts.l0]
    rw [if_neg (by omega)]
  | d + 1, i, out, hd, ho, hr, h1, h2, hp => by
    have hw : wrap64 ((i : Int) + 1) = ((i + 1 : Nat) : Int) := by rw [wrap_id _ (by omega) (by omega)]; rfl
    have ih := l0_ev n hn l hl r d (i + 1) (out.set i (col i l (out.getD i z32))) (by omega) (by simpa using ho) hr
      (fun q hq => by
        by_cases e : i = q
        · subst e
          rw [h2 i (Nat.le_refl _) (by omega)]
          simp [List.getD_eq_getElem?_getD, show i < out.length by omega]
        · rw [← h1 q (by omega)]
          simp [List.getD_eq_getElem?_getD, List.getElem?_set_ne e])
      (fun q hq hq2 => by
        rw [h2 q (by omega) hq2]
        congr 1
        simp [List.getD_eq_getElem?_getD, List.getElem?_set_ne (show i ≠ q by omega)]) hp
    refine Ev.step (fun k => ?_) (l1_ev n i l hl r l.length 0 out (by omega) (by omega) (by rw [hw]; exact ih))
    simp only [glyphcutterref24_Counts.l0]
    rw [if_pos (by omega)]
    rfl
theorem counts_ev (l : List Tok) (hl : l.length ≤ 4611686018427387904) (n : Int) : ∃ r, rate_Counts.f l n = some r ∧ Ev (fun k => glyphcutterref24_Counts.f k l n) r := by
  unfold rate_Counts.f
  by_cases c1 : n < 1
  · rw [if_pos (Or.inl c1)]
    refine ⟨_, rfl, Ev.step (fun k => ?_) (Ev.now [])⟩
    unfold glyphcutterref24_Counts.f
    rw [if_pos c1]
    simp only [glyphcutterref24_Counts.j0, if_true]
  · by_cases c2 : 30 < n
    · rw [if_pos (Or.inr c2)]
      refine ⟨_, rfl, Ev.step (fun k => ?_) (Ev.now [])⟩
      unfold glyphcutterref24_Counts.f
      rw [if_neg c1, decide_eq_true c2]
      simp only [glyphcutterref24_Counts.j0, if_true]
    · rw [if_neg (by omega)]
      have hlr : (List.replicate n.toNat z32).length = n.toNat := List.length_replicate
      refine ⟨_, rfl, Ev.step (fun k => ?_) (l0_ev n (by omega) l hl _ n.toNat 0 (List.replicate n.toNat z32) (by omega) hlr (by rw [go_len]; exact hlr) (fun q hq => by omega) (fun q _ hq => go_get n l _ q hlr hq) (by omega))⟩
      unfold glyphcutterref24_Counts.f
      rw [if_neg c1, decide_eq_false c2]
      simp only [glyphcutterref24_Counts.j0, Bool.false_eq_true, if_false]
      rw [if_pos (by omega), if_pos (by omega)]
      rfl
theorem same_ev (a : List Cnt) (ha : a.length ≤ 4611686018427387904) : Ev (fun k => glyphcutterlaw24_same.f k a a) true := by
  have : ∀ d i : Nat, i + d = a.length → Ev (fun k => glyphcutterlaw24_same.l0 k a a (i : Int)) true := by
    intro d
    induction d with
    | zero =>
      intro i hi
      refine Ev.step (fun k => ?_) (Ev.now true)
      simp only [glyphcutterlaw24_same.l0]
      rw [if_neg (by omega)]
    | succ d ih =>
      intro i hi
      have hw : wrap64 ((i : Int) + 1) = ((i + 1 : Nat) : Int) := by rw [wrap_id _ (by omega) (by omega)]; rfl
      refine Ev.step (fun k => ?_) (ih (i + 1) (by omega))
      simp only [glyphcutterlaw24_same.l0]
      rw [if_pos (by omega), if_pos (by omega), if_pos (by omega), hw]
      simp
  refine Ev.congr (fun k => ?_) (this a.length 0 (by omega))
  unfold glyphcutterlaw24_same.f
  rw [if_pos rfl]
  rfl
theorem one_ev (l : List Tok) (hl : l.length ≤ 4611686018427387904) (n : Int) : ∃ r, r.length ≤ 30 ∧ rate_Counts.f l n = some r ∧ Ev (fun k => glyphcutterref24_Counts.f k l n) r := by
  obtain ⟨r, h1, h2⟩ := counts_ev l hl n
  refine ⟨r, ?_, h1, h2⟩
  unfold rate_Counts.f at h1
  split at h1
  · cases h1; simp
  · cases h1
    rw [go_len, List.length_replicate]; omega
theorem main_ev (c : List Int) (hc : c.length ≤ 200) (a2 a3 : Int) : ∀ (d i : Nat) (t : List Tok), i + d = c.length → t.length ≤ 200 + i → Ev (fun k => glyphcutterlaw24_RateCounts.l0 k c a2 a3 t (i : Int)) true
  | 0, i, t, hd, ht => by
    obtain ⟨r1, l1, e1, v1⟩ := one_ev t (by omega) a2
    obtain ⟨r2, l2, e2, v2⟩ := one_ev t (by omega) (wrap64 (Int.tmod a3 33))
    have b2 : Ev (fun k => (glyphcutterref24_Counts.f k t (wrap64 (Int.tmod a3 33))).bind fun t132 => ((glyphcutterlaw24_same.f k r2 t132).bind fun t135 => (some t135))) true :=
      Ev.bind (f := fun k t132 => ((glyphcutterlaw24_same.f k r2 t132).bind fun t135 => (some t135))) v2 (Ev.bind (f := fun _ t135 => some t135) (same_ev r2 (by omega)) (Ev.now true))
    have b1 : Ev (fun k => (glyphcutterref24_Counts.f k t a2).bind fun t125 => ((glyphcutterlaw24_same.f k r1 t125).bind fun t128 => if t128 = true then ((glyphcutterref24_Counts.f k t (wrap64 (Int.tmod a3 33))).bind fun t132 => ((glyphcutterlaw24_same.f k r2 t132).bind fun t135 => (some t135))) else some false)) true :=
      Ev.bind (f := fun k t125 => ((glyphcutterlaw24_same.f k r1 t125).bind fun t128 => if t128 = true then ((glyphcutterref24_Counts.f k t (wrap64 (Int.tmod a3 33))).bind fun t132 => ((glyphcutterlaw24_same.f k r2 t132).bind fun t135 => (some t135))) else some false)) v1
        (Ev.bind (f := fun k t128 => if t128 = true then ((glyphcutterref24_Counts.f k t (wrap64 (Int.tmod a3 33))).bind fun t132 => ((glyphcutterlaw24_same.f k r2 t132).bind fun t135 => (some t135))) else some false) (same_ev r1 (by omega)) (Ev.congr (fun k => if_pos rfl) b2))
    refine Ev.step (fun k => ?_) b1
    simp only [glyphcutterlaw24_RateCounts.l0]
    rw [if_neg (by omega), e1, e2]
    rfl
  | d + 1, i, t, hd, ht => by
    have hw : wrap64 ((i : Int) + 1) = ((i + 1 : Nat) : Int) := by rw [wrap_id _ (by omega) (by omega)]; rfl
    refine Ev.step (fun k => ?_) (main_ev c hc a2 a3 d (i + 1) (t ++ [(⟨wrap64 ((wrap64 (Int.tmod (rd c (i : Int)) 9)) - 1), 0, wrap64 (rd c (i : Int)), 0, 0, (⟨#[]⟩ : ByteArray)⟩ : Tok)]) (by omega) (by simp; omega))
    simp only [glyphcutterlaw24_RateCounts.l0]
    rw [if_pos (by omega), if_pos (by omega), if_pos (by omega), hw]
theorem counts_law (l : List Tok) (c : List Int) (a2 a3 : Int) : Ev (fun k => glyphcutterlaw24_RateCounts.f k l c a2 a3) true := by
  have hk : glyphcutterlaw24_known.f = some true := rfl
  have hT : Ev (fun k => glyphcutterlaw24_RateCounts.j0 k l c a2 a3 true) true := by
    refine Ev.step (fun k => ?_) (Ev.now true)
    simp only [glyphcutterlaw24_RateCounts.j0, if_true, hk, Option.bind_some]
  unfold glyphcutterlaw24_RateCounts.f
  by_cases c1 : (l.length : Int) > 200
  · simp only [if_pos c1]; exact hT
  · by_cases c2 : (c.length : Int) > 200
    · simp only [if_neg c1, if_pos c2]; exact hT
    · simp only [if_neg c1, if_neg c2, hk, Option.bind_some, Bool.not_true]
      refine Ev.step (fun k => ?_) (main_ev c (by omega) a2 a3 c.length 0 l (by omega) (by omega))
      simp only [glyphcutterlaw24_RateCounts.j0, Bool.false_eq_true, if_false, List.nil_append, List.length_nil]
      rw [if_pos (by omega)]
      rfl
end Go.Proofs.YtaacbjchjdjieaaGreatDoor.P
