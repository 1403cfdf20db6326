/- Part 9 of the proof: U1, S11b, S12. -/
import Derived.Test.YtfbfeimildkigaaDoorCb8
namespace Go.Proofs.YtfbfeimildkigaaDoor.P
open Go Go.RowKit Go.Proofs.YtfbfeimildkigaaDoorW.PrintWords Go.Proofs.YtfbfeimildkigaaDoor.PX
set_option linter.unusedVariables false
theorem mem_lay (x y : Int) : ∀ l : List Int, y ∈ layL x l ↔ y = x ∨ y ∈ l
 | [] => by simp [layL]
 | z :: t => by
  rw [layL]
  split
  ·rw [List.mem_cons, mem_lay x y t, List.mem_cons]
   constructor
   ·rintro (h | h | h) <;> simp [h]
   ·rintro (h | h | h) <;> simp [h]
  ·split
   ·next h => subst h; simp
   ·simp
theorem mem_ed1 (s : Sp) (o : List Int) (y : Int) : y ∈ ed1 s o ↔ (y = s.f0 ∧ scalarB s.f0 = true) ∨ y ∈ o := by
 unfold ed1
 split
 ·next h => rw [mem_lay]; simp [h]
 ·next h => simp [h]
theorem mem_ed2 (s : Sp) (o : List Int) (y : Int) : y ∈ ed2 s o ↔ (y = s.f1 + 1 ∧ s.f1 < 1114111 ∧ scalarB (s.f1 + 1) = true) ∨ y ∈ o := by
 unfold ed2
 split
 ·next h => rw [mem_lay]; simp [h]
 ·next h => simp [h]
def Edge (l : List Sp) (y : Int) : Prop := ∃ s ∈ l, (y = s.f0 ∧ scalarB s.f0 = true) ∨ (y = s.f1 + 1 ∧ s.f1 < 1114111 ∧ scalarB (s.f1 + 1) = true)
theorem mem_edGo (y : Int) : ∀ (l : List Sp) (o : List Int), y ∈ edGo o l ↔ y ∈ o ∨ Edge l y
 | [], o => by simp [edGo, Edge]
 | s :: t, o => by
  rw [edGo, mem_edGo y t, mem_ed2, mem_ed1]
  unfold Edge
  constructor
  ·rintro ((h | h | h) | ⟨r, hr, h⟩)
   ·exact .inr ⟨s, List.mem_cons_self, .inr h⟩
   ·exact .inr ⟨s, List.mem_cons_self, .inl h⟩
   ·exact .inl h
   ·exact .inr ⟨r, List.mem_cons_of_mem _ hr, h⟩
  ·rintro (h | ⟨r, hr, h⟩)
   ·exact .inl (.inr (.inr h))
   ·rcases List.mem_cons.1 hr with rfl | hr
    ·rcases h with h | h
     ·exact .inl (.inr (.inl h))
     ·exact .inl (.inl h)
    ·exact .inr ⟨r, hr, h⟩
theorem mem_edges (l : List Sp) (y : Int) : y ∈ edgesL l ↔ (y = 0 ∨ y = 57344) ∨ Edge l y := by
 unfold edgesL
 rw [mem_edGo]
 simp
theorem mem_layAll (y : Int) : ∀ (t e : List Int), y ∈ layAll e t ↔ y ∈ e ∨ y ∈ t
 | [], e => by simp [layAll]
 | x :: t, e => by
  rw [layAll, mem_layAll y t, mem_lay, List.mem_cons]
  constructor
  ·rintro ((h | h) | h) <;> simp [h]
  ·rintro (h | h | h) <;> simp [h]
def Rise (l : List Int) : Prop := l.Pairwise (fun a b => a < b)
theorem rise_lay (x : Int) : ∀ l : List Int, Rise l → Rise (layL x l)
 | [], _ => List.pairwise_singleton _ _
 | z :: t, h => by
  obtain ⟨h1, h2⟩ := List.pairwise_cons.1 h
  rw [layL]
  split
  ·next c =>
   refine List.pairwise_cons.2 ⟨fun y hy => ?_, rise_lay x t h2⟩
   rcases (mem_lay x y t).1 hy with rfl | hy
   ·exact c
   ·exact h1 y hy
  ·split
   ·next c => subst c; exact h
   ·next c1 c2 =>
    refine List.pairwise_cons.2 ⟨fun y hy => ?_, h⟩
    rcases List.mem_cons.1 hy with rfl | hy
    ·omega
    ·have := h1 y hy; omega
theorem rise_edGo : ∀ (l : List Sp) (o : List Int), Rise o → Rise (edGo o l)
  | [], o, h => h
  | s :: t, o, h => by
    rw [edGo]
    refine rise_edGo t _ ?_
    have h1 : Rise (ed1 s o) := by unfold ed1; split; · exact rise_lay _ _ h
                                   · exact h
    unfold ed2
    split
    · exact rise_lay _ _ h1
    · exact h1
theorem rise_edges (l : List Sp) : Rise (edgesL l) := rise_edGo l _ (by unfold Rise; decide)
theorem rise_layAll : ∀ (t e : List Int), Rise e → Rise (layAll e t)
 | [], e, h => h
 | x :: t, e, h => rise_layAll t _ (rise_lay x e h)
theorem rise_at {l : List Int} (h : Rise l) {i j : Nat} (hij : i < j) (hj : j < l.length) : l.getD i 0 < l.getD j 0 := by
 rw [List.getD_eq_getElem?_getD, List.getElem?_eq_getElem (show i < l.length by omega), List.getD_eq_getElem?_getD, List.getElem?_eq_getElem hj]
 exact List.pairwise_iff_getElem.1 h i j (by omega) hj hij
theorem mkHi_ge {e : List Int} (h : Rise e) (he : ∀ x ∈ e, 0 ≤ x ∧ x ≤ 1114111) (i : Nat) (hi : i < e.length) : e.getD i 0 ≤ mkHi e i ∧ mkHi e i ≤ 1114111 ∧ (e.getD i 0 < 55296 → mkHi e i ≤ 55295) := by
 have h0 := he _ (mem_getD e 0 i hi)
 have h3 := mkHi_in e i he
 have h1 : e.getD i 0 ≤ (if i + 1 < e.length then e.getD (i + 1) 0 - 1 else 1114111) := by
  split
  ·next c => have := rise_at h (show i < i + 1 by omega) c; omega
  ·omega
 refine ⟨?_, h3.2, ?_⟩
 ·unfold mkHi mn
  split
  ·split <;> omega
  ·exact h1
 ·intro c
  unfold mkHi mn
  rw [if_pos c]
  split <;> omega
theorem scalarB_iff (r : Int) : scalarB r = true ↔ 0 ≤ r ∧ r ≤ 1114111 ∧ (r < 55296 ∨ 57343 < r) := by
 unfold scalarB
 simp only [Bool.and_eq_true, Bool.or_eq_true, decide_eq_true_eq]
 constructor
 ·rintro ⟨⟨h1, h2⟩, h3⟩; exact ⟨h1, h2, h3⟩
 ·rintro ⟨h1, h2, h3⟩; exact ⟨⟨h1, h2⟩, h3⟩
theorem hasB_scalar {l : List Sp} {r : Int} (h : hasB l r = true) : scalarB r = true := by
 unfold hasB at h
 exact (Bool.and_eq_true_iff.1 h).2
theorem hasB_mem {l : List Sp} {r : Int} : hasB l r = true ↔ (∃ s ∈ l, s.f0 ≤ r ∧ r ≤ s.f1) ∧ scalarB r = true := by
 unfold hasB
 simp only [Bool.and_eq_true, List.any_eq_true, decide_eq_true_eq]
theorem mkBit_has {a b : List Sp} {n x : Int} (hn : n % 2 = 0) (h : mkBit n (mkK a b x) ≠ 0) : hasB a x = true ∨ hasB b x = true := by
 unfold mkBit mkK at h
 by_cases c1 : hasB a x = true
 ·exact .inl c1
 ·by_cases c2 : hasB b x = true
  ·exact .inr c2
  ·rw [if_neg c1, if_neg c2, if_pos (by decide)] at h
   exact absurd hn h
def Made (a b : List Sp) (s : Sp) : Prop := SpOk s ∧ (hasB a s.f0 = true ∨ hasB b s.f0 = true)
theorem mkOut_made {a b : List Sp} {out : List Sp} {x hi : Int} (ho : ∀ s ∈ out, Made a b s) (hx : scalarB x = true) (hh : hasB a x = true ∨ hasB b x = true) (h1 : x ≤ hi) (h2 : hi ≤ 1114111) (h3 : x < 55296 → hi ≤ 55295) : ∀ s ∈ mkOut out x hi, Made a b s := by
 have hs := (scalarB_iff x).1 hx
 unfold mkOut
 split
 ·next c =>
  intro s hm
  rcases List.mem_or_eq_of_mem_set hm with h | h
  ·exact ho s h
  ·have hl := ho _ (mem_getD out z67 (out.length - 1) (by omega))
   subst h
   obtain ⟨⟨q1, q2, q3, q4⟩, q5⟩ := hl
   refine ⟨⟨q1, ?_, h2, ?_⟩, q5⟩
   ·have := c.2; dsimp only; omega
   ·have := c.2; dsimp only; omega
 ·intro s hm
  rcases List.mem_append.1 hm with h | h
  ·exact ho s h
  ·obtain rfl : s = ⟨x, hi⟩ := by simpa using h
   exact ⟨⟨hs.1, h1, h2, by dsimp only; omega⟩, hh⟩
theorem mkGo_made {a b : List Sp} {n : Int} (hn : n % 2 = 0) {e : List Int} (hr : Rise e) (he : ∀ x ∈ e, 0 ≤ x ∧ x ≤ 1114111) : ∀ (d i : Nat) (out : List Sp), i + d ≤ e.length → (∀ s ∈ out, Made a b s) → ∀ s ∈ mkGo a b n e d i out, Made a b s
 | 0, _, out, _, h => h
 | d + 1, i, out, hd, h => by
  rw [mkGo]
  refine mkGo_made hn hr he d (i + 1) _ (by omega) ?_
  split
  ·exact h
  ·next c =>
   have hb := mkBit_has hn c
   have hg := mkHi_ge hr he i (by omega)
   exact mkOut_made h (hb.elim hasB_scalar hasB_scalar) hb hg.1 hg.2.1 hg.2.2
theorem make_made (a b : List Sp) (n : Int) (hn : n % 2 = 0) : ∀ s ∈ makeL a b n, Made a b s :=
 mkGo_made hn (rise_layAll _ _ (rise_edges a)) (layAll_range _ _ (edges_range b) (edges_range a)) _ 0 [] (by omega) (by intro s hs; cases hs)
theorem mkOut_ne (out : List Sp) (x hi : Int) : (mkOut out x hi).length ≠ 0 := by
 unfold mkOut
 split
 ·next c => rw [List.length_set]; omega
 ·simp
theorem mkGo_ne {a b : List Sp} {n : Int} {e : List Int} : ∀ (d i : Nat) (out : List Sp), (out.length ≠ 0 ∨ ∃ j, i ≤ j ∧ j < i + d ∧ mkBit n (mkK a b (e.getD j 0)) ≠ 0) → (mkGo a b n e d i out).length ≠ 0
 | 0, i, out, h => by
  rcases h with h | ⟨j, h1, h2, _⟩
  ·exact h
  ·omega
 | d + 1, i, out, h => by
  rw [mkGo]
  refine mkGo_ne d (i + 1) _ ?_
  split
  ·next c =>
   rcases h with h | ⟨j, h1, h2, h3⟩
   ·exact .inl h
   ·have : j ≠ i := fun hji => by subst hji; exact h3 c
    exact .inr ⟨j, by omega, by omega, h3⟩
  ·exact .inl (mkOut_ne _ _ _)
theorem make_ne {a b : List Sp} {n x : Int} (hx : x ∈ edgesL a ∨ x ∈ edgesL b) (h : mkBit n (mkK a b x) ≠ 0) : (makeL a b n).length ≠ 0 := by
 have hm : x ∈ layAll (edgesL a) (edgesL b) := (mem_layAll x _ _).2 hx
 obtain ⟨j, hj, e⟩ := List.getElem_of_mem hm
 refine mkGo_ne _ 0 [] (.inr ⟨j, Nat.zero_le _, by omega, ?_⟩)
 rw [List.getD_eq_getElem?_getD, List.getElem?_eq_getElem hj, Option.getD_some, e]
 exact h
theorem norm_char {p : List Sp} (h : makeL p [] 2 = p) (hne : p.length ≠ 0) : ∃ s ∈ p, hasB p s.f0 = true ∧ SpOk s := by
 obtain ⟨s, hs⟩ := List.exists_mem_of_length_pos (show 0 < p.length by omega)
 have hm := make_made p [] 2 (by decide) s (by rw [h]; exact hs)
 refine ⟨s, hs, ?_, hm.1⟩
 rcases hm.2 with h | h
 ·exact h
 ·simp [hasB] at h
theorem norm_ne {u : List Sp} {s : Sp} (hs : s ∈ u) (hsc : scalarB s.f0 = true) (hle : s.f0 ≤ s.f1) : (makeL u [] 2).length ≠ 0 := by
 refine make_ne (x := s.f0) (.inl ((mem_edges u _).2 (.inr ⟨s, hs, .inl ⟨rfl, hsc⟩⟩))) ?_
 have h1 : hasB u s.f0 = true := hasB_mem.2 ⟨⟨s, hs, by omega, hle⟩, hsc⟩
 have h2 : hasB [] s.f0 = false := by simp [hasB]
 unfold mkK
 rw [if_pos h1, h2]
 decide
end Go.Proofs.YtfbfeimildkigaaDoor.P
namespace Go.Proofs.YtfbfeimildkigaaDoor.P
open Go Go.RowKit Go.Proofs.YtfbfeimildkigaaDoorW.PrintWords Go.Proofs.YtfbfeimildkigaaDoorW.PrintLast Go.Proofs.YtfbfeimildkigaaDoorW.PrintMore Go.Proofs.YtfbfeimildkigaaDoor.PX
set_option linter.unusedVariables false
set_option linter.unusedSimpArgs false
set_option maxRecDepth 100000
def PartOk (parts : List (List Sp)) (i : Nat) : Prop := makeL (parts.getD i []) [] 2 = parts.getD i [] ∧ ∀ j, j < i → (makeL (parts.getD i []) (parts.getD j []) 8).length = 0
def RowOk (P : Nat) (next : List (List Int)) (tags : List Int) (i : Nat) : Prop := (next.getD i []).length = P ∧ -1 ≤ tags.getD i 0 ∧ ∀ j, j < (next.getD i []).length → -1 ≤ (next.getD i []).getD j 0 ∧ (next.getD i []).getD j 0 < (tags.length : Int)
def SoundP (parts : List (List Sp)) (next : List (List Int)) (tags : List Int) : Prop :=
 (parts.length ≤ 2000 ∧ 1 ≤ tags.length ∧ tags.length ≤ 2000 ∧ next.length = tags.length) ∧ (∀ i, i < parts.length → PartOk parts i) ∧ ∀ i, i < tags.length → RowOk parts.length next tags i
instance (parts : List (List Sp)) (i : Nat) : Decidable (PartOk parts i) := by unfold PartOk; infer_instance
instance (P : Nat) (next : List (List Int)) (tags : List Int) (i : Nat) : Decidable (RowOk P next tags i) := by unfold RowOk; infer_instance
instance (parts : List (List Sp)) (next : List (List Int)) (tags : List Int) : Decidable (SoundP parts next tags) := by unfold SoundP; infer_instance
set_option maxHeartbeats 4000000 in
theorem dsound_calls (X : Nat → Prop) (vp vn vt : Value) (parts : List (List Sp)) (next : List (List Int)) (tags : List Int) (w : World) (hX : ∀ k, X k → k < w.heap.size) (hp : PV kSps X w vp parts) (hn : PV kRow X w vn next) (ht : PV kInt X w vt tags)
  (hs : ∀ p ∈ parts, Sm p ∧ p.length ≤ 10000) :
  Calls Tryd.prog 35 #[.agg #[vp, vn, vt]] w fun e w' => e = .returned (.bool (decide (SoundP parts next tags))) ∧ Below w.heap.size w w' := by
 have H0 := Aside0.mk hp
 have H1 := Aside0.mk hn
 have H2 := Aside0.mk ht
 have HX := Aside0.mk hX
 have HSM := Aside0.mk hs
 have m0 := hp.max
 have m1 := hn.max
 have m2 := ht.max
 obtain ⟨Ap, cp, rfl, _, _⟩ := hp.now
 obtain ⟨An, cn, rfl, _, _⟩ := hn.now
 obtain ⟨At, ct, rfl, _, _⟩ := ht.now
 obtain ⟨q, hq⟩ : ∃ q, q = decide (SoundP parts next tags) := ⟨_, rfl⟩
 rw [← hq]
 have HQ := Aside0.mk hq
 clear hp hn ht hX hs hq
 have h5 : 2000 < parts.length ∨ (parts.length ≤ 2000 ∧ tags.length < 1) ∨ (parts.length ≤ 2000 ∧ 1 ≤ tags.length ∧ 2000 < tags.length) ∨ (parts.length ≤ 2000 ∧ 1 ≤ tags.length ∧ tags.length ≤ 2000 ∧ next.length ≠ tags.length) ∨ (parts.length ≤ 2000 ∧ 1 ≤ tags.length ∧ tags.length ≤ 2000 ∧ next.length = tags.length) := by omega
 rcases h5 with h | ⟨a1, h⟩ | ⟨a1, a2, h⟩ | ⟨a1, a2, a3, h⟩ | ⟨a1, a2, a3, a4⟩
 case' inl =>
  have q0 : q = false := by rw [HQ.out]; exact decide_eq_false (fun s => by have := s.1; omega)
  have d1 : decide ((parts.length : Int) > 2000) = true := decide_eq_true (by omega)
  have d1n : decide (2000 < parts.length) = true := decide_eq_true (by omega)
 case' inr.inl =>
  have q0 : q = false := by rw [HQ.out]; exact decide_eq_false (fun s => by have := s.1; omega)
  have d1 : decide ((parts.length : Int) > 2000) = false := decide_eq_false (by omega)
  have d1n : decide (2000 < parts.length) = false := decide_eq_false (by omega)
  have d2 : decide ((tags.length : Int) < 1) = true := decide_eq_true (by omega)
  have d2n : decide (tags.length < 1) = true := decide_eq_true (by omega)
 case' inr.inr.inl =>
  have q0 : q = false := by rw [HQ.out]; exact decide_eq_false (fun s => by have := s.1; omega)
  have d1 : decide ((parts.length : Int) > 2000) = false := decide_eq_false (by omega)
  have d1n : decide (2000 < parts.length) = false := decide_eq_false (by omega)
  have d2 : decide ((tags.length : Int) < 1) = false := decide_eq_false (by omega)
  have d2n : decide (tags.length < 1) = false := decide_eq_false (by omega)
  have d3 : decide ((tags.length : Int) > 2000) = true := decide_eq_true (by omega)
  have d3n : decide (2000 < tags.length) = true := decide_eq_true (by omega)
 case' inr.inr.inr.inl =>
  have q0 : q = false := by rw [HQ.out]; exact decide_eq_false (fun s => by have := s.1; omega)
  have d1 : decide ((parts.length : Int) > 2000) = false := decide_eq_false (by omega)
  have d1n : decide (2000 < parts.length) = false := decide_eq_false (by omega)
  have d2 : decide ((tags.length : Int) < 1) = false := decide_eq_false (by omega)
  have d2n : decide (tags.length < 1) = false := decide_eq_false (by omega)
  have d3 : decide ((tags.length : Int) > 2000) = false := decide_eq_false (by omega)
  have d3n : decide (2000 < tags.length) = false := decide_eq_false (by omega)
  have d4 : ((next.length : Int) != (tags.length : Int)) = true := bne_iff_ne.mpr (by omega)
  have d4n : ((next.length : Int) == (tags.length : Int)) = false := beq_eq_false_iff_ne.mpr (by omega)
 case' inr.inr.inr.inr =>
  have d1 : decide ((parts.length : Int) > 2000) = false := decide_eq_false (by omega)
  have d1n : decide (2000 < parts.length) = false := decide_eq_false (by omega)
  have d2 : decide ((tags.length : Int) < 1) = false := decide_eq_false (by omega)
  have d2n : decide (tags.length < 1) = false := decide_eq_false (by omega)
  have d3 : decide ((tags.length : Int) > 2000) = false := decide_eq_false (by omega)
  have d3n : decide (2000 < tags.length) = false := decide_eq_false (by omega)
  have d4 : ((next.length : Int) != (tags.length : Int)) = false := bne_eq_false_iff_eq.mpr (by omega)
  have d4n : ((next.length : Int) == (tags.length : Int)) = true := beq_iff_eq.mpr (by omega)
 case inr.inr.inr.inr =>
  have HL := Aside0.mk (show parts.length ≤ 2000 ∧ 1 ≤ tags.length ∧ tags.length ≤ 2000 ∧ next.length = tags.length from ⟨a1, a2, a3, a4⟩)
  clear a4
  go_enter Tryd.func35, Tryd.ntmps35
  go_wp2_with fail
  obtain ⟨w1, hw1⟩ : ∃ w1, w1 = w.alloc (.cells #[.slice Ap parts.length cp, .slice An next.length cn, .slice At tags.length ct] 58) := ⟨_, rfl⟩
  rw [← hw1]
  have hb1 : Below w.heap.size w w1 := by rw [hw1]; exact below_alloc (Below.refl _ _) _
  have HB1 := Aside0.mk hb1
  have HG := Aside0.mk (show Box w1 w.heap.size 58 [.slice Ap parts.length cp, .slice An next.length cn, .slice At tags.length ct] by rw [hw1]; exact Box.alloc w _ _)
  have HX1 := Aside0.mk (show ∀ k, X k → k < w1.heap.size from fun k hk => Nat.lt_of_lt_of_le (HX.out k hk) hb1.size)
  have HP := Aside0.mk (H0.out.below hb1)
  have HN := Aside0.mk (H1.out.below hb1)
  have HT := Aside0.mk (H2.out.below hb1)
  have HBE := Aside0.mk (show ∀ W, Below w1.heap.size w1 W → Below w.heap.size w W from fun W h => below_step hb1 h)
  clear hw1 hb1 d1 d1n d2 d2n d3 d3n d4 d4n H0 H1 H2
  obtain ⟨g, hg⟩ : ∃ g, g = w.heap.size := ⟨_, rfl⟩
  rw [← hg] at HG ⊢
  clear hg
  go_loopg [4] parts.length (fun m v4 w' => ∃ (i : Nat), v4 = .int .i64 i ∧ Aside0 (i + m = parts.length) ∧ Aside0 (∀ a, a < i → PartOk parts a) ∧ Aside0 (Below w1.heap.size w1 w'))
  case atStart => exact ⟨0, rfl, ⟨by omega⟩, ⟨fun a h => by omega⟩, ⟨Below.refl _ _⟩⟩
  case round =>
   obtain ⟨i, rfl, HJ, HO, HB⟩ := hrel
   have HGi := Aside0.mk (HG.out.step HB.out)
   have y0 := HGi.out.cell 0 rfl
   cases gk with
   | succ k1 =>
    have hi : i < parts.length := by have := HJ.out; omega
    have hi2 : i < 2000 := by have := HL.out.1; omega
    have e1 : decide ((i : Int) < (parts.length : Int)) = true := decide_eq_true (by omega)
    have e2 : decide (i < parts.length) = true := decide_eq_true hi
    have hi0 : (0 : Int) ≤ (i : Int) := by omega
    have hi1 : (i : Int) < (parts.length : Int) := by omega
    obtain ⟨ap, cx, ux, ex, hux, hcx⟩ := (HP.out.below HB.out).row i hi
    cases ex
    have HPS := Aside0.mk (HSM.out _ (mem_getD parts [] i hi))
    have HPD := Aside0.mk (show PartOk parts i ↔ _ from Iff.rfl)
    unfold PartOk at HPD
    have HU := Aside0.mk hux
    clear hux
    obtain ⟨p, hp⟩ : ∃ p, p = parts.getD i [] := ⟨_, rfl⟩
    rw [← hp] at HU HPS HPD
    have HPE := Aside0.mk hp
    clear hp
    have HXw := Aside0.mk (show ∀ k, X k → k < _ from fun k hk => Nat.lt_of_lt_of_le (HX1.out k hk) HB.out.size)
    have HBd := Aside0.mk (below_drew (Below.refl wr.heap.size wr))
    have yd0 := pw_cell_below HBd.out y0
    have yd1 := pw_cell_below HBd.out hcx
    obtain ⟨bq, hbq⟩ : ∃ b, b = decide (makeL p [] 2 = p) := ⟨_, rfl⟩
    have HBQ := Aside0.mk hbq
    clear hbq
    go_wp2_with fail
    refine start_ (n := 13) (S := fun w' => w'.cell? ⟨g, 0, none⟩ = some (.slice (some ap) parts.length cp) ∧ w'.cell? (ap.add i) = some ux) (ds := []) #[false, false, false, false, false, false, false, false, false, false, false, false, false] (by kernel_rfl) rfl rfl ⟨yd0, yd1⟩ (fun hHeld => ?_)
    refine pure_ (i := 0) (N := some 37) (v := ?_) (a' := ?_) #[true, false, false, false, false, false, false, false, false, false, false, false, false] rfl rfl (by kernel_rfl) (fun _ _ _ h => h) (Or.inl ⟨by rfl, ?_⟩) ?_ ?_
    rotate_left
    ·intro w'
     go_simp
     with_reducible rfl
    rotate_left
    ·simp only [Act.put, List.setIfInBounds_toArray, List.set_cons_zero, List.set_cons_succ, i64_w, i32_w]
     rfl
    refine pure_ (i := 2) (N := some 39) (v := ?_) (a' := ?_) #[true, false, true, false, false, false, false, false, false, false, false, false, false] rfl rfl (by kernel_rfl) (fun _ _ _ h => h) (Or.inl ⟨by rfl, ?_⟩) ?_ ?_
    rotate_left
    ·intro w'
     go_simp
     with_reducible rfl
    rotate_left
    ·simp only [Act.put, List.setIfInBounds_toArray, List.set_cons_zero, List.set_cons_succ, i64_w, i32_w]
     rfl
    refine pure_ (i := 6) (N := some 43) (v := ?_) (a' := ?_) #[true, false, true, false, false, false, true, false, false, false, false, false, false] rfl rfl (by kernel_rfl) (fun _ _ _ h => h) (Or.inl ⟨by rfl, ?_⟩) ?_ ?_
    rotate_left
    ·intro w'
     go_simp
     with_reducible rfl
    rotate_left
    ·simp only [Act.put, List.setIfInBounds_toArray, List.set_cons_zero, List.set_cons_succ, i64_w, i32_w]
     rfl
    refine pure_ (i := 8) (N := some 45) (v := ?_) (a' := ?_) #[true, false, true, false, false, false, true, false, true, false, false, false, false] rfl rfl (by kernel_rfl) (fun _ _ _ h => h) (Or.inl ⟨by rfl, ?_⟩) ?_ ?_
    rotate_left
    ·intro w'
     go_simp
     with_reducible rfl
    rotate_left
    ·simp only [Act.put, List.setIfInBounds_toArray, List.set_cons_zero, List.set_cons_succ, i64_w, i32_w]
     rfl
    refine take_ (i := 1) (N := some 38) (v := ?_) (a' := ?_) #[true, true, true, false, false, false, true, false, true, false, false, false, false] rfl rfl (by kernel_rfl) (fun _ _ _ h => h) (Or.inl ⟨by rfl, ?_⟩) hHeld ?_ ?_
    rotate_left
    ·rintro w' ⟨s0, s1⟩
     go_simp
     with_reducible rfl
    rotate_left
    ·simp only [Act.put, List.setIfInBounds_toArray, List.set_cons_zero, List.set_cons_succ, i64_w, i32_w]
     rfl
    refine pure_ (i := 3) (N := some 40) (v := ?_) (a' := ?_) #[true, true, true, true, false, false, true, false, true, false, false, false, false] rfl rfl (by kernel_rfl) (fun _ _ _ h => h) (Or.inl ⟨by rfl, ?_⟩) ?_ ?_
    rotate_left
    ·intro w'
     go_simp
     with_reducible rfl
    rotate_left
    ·simp only [Act.put, List.setIfInBounds_toArray, List.set_cons_zero, List.set_cons_succ, i64_w, i32_w]
     rfl
    refine take_ (i := 4) (N := some 41) (v := ?_) (a' := ?_) #[true, true, true, true, true, false, true, false, true, false, false, false, false] rfl rfl (by kernel_rfl) (fun _ _ _ h => h) (Or.inl ⟨by rfl, ?_⟩) hHeld ?_ ?_
    rotate_left
    ·rintro w' ⟨s0, s1⟩
     go_simp
     with_reducible rfl
    rotate_left
    ·simp only [Act.put, List.setIfInBounds_toArray, List.set_cons_zero, List.set_cons_succ, i64_w, i32_w]
     rfl
    refine take_ (i := 7) (N := some 44) (v := ?_) (a' := ?_) #[true, true, true, true, true, false, true, true, true, false, false, false, false] rfl rfl (by kernel_rfl) (fun _ _ _ h => h) (Or.inl ⟨by rfl, ?_⟩) hHeld ?_ ?_
    rotate_left
    ·rintro w' ⟨s0, s1⟩
     go_simp
     with_reducible rfl
    rotate_left
    ·simp only [Act.put, List.setIfInBounds_toArray, List.set_cons_zero, List.set_cons_succ, i64_w, i32_w]
     rfl
    refine pure_ (i := 9) (N := some 46) (v := ?_) (a' := ?_) #[true, true, true, true, true, false, true, true, true, true, false, false, false] rfl rfl (by kernel_rfl) (fun _ _ _ h => h) (Or.inl ⟨by rfl, ?_⟩) ?_ ?_
    rotate_left
    ·intro w'
     go_simp
     with_reducible rfl
    rotate_left
    ·simp only [Act.put, List.setIfInBounds_toArray, List.set_cons_zero, List.set_cons_succ, i64_w, i32_w]
     rfl
    refine take_ (i := 10) (N := some 47) (v := ?_) (a' := ?_) #[true, true, true, true, true, false, true, true, true, true, true, false, false] rfl rfl (by kernel_rfl) (fun _ _ _ h => h) (Or.inl ⟨by rfl, ?_⟩) hHeld ?_ ?_
    rotate_left
    ·rintro w' ⟨s0, s1⟩
     go_simp
     with_reducible rfl
    rotate_left
    ·simp only [Act.put, List.setIfInBounds_toArray, List.set_cons_zero, List.set_cons_succ, i64_w, i32_w]
     rfl
    refine one_ (i := 5) (N := some 42) #[true, true, true, true, true, true, true, true, true, true, true, false, false] rfl rfl (by kernel_rfl) (by decide) (fun K hK => ?_)
    refine goes_ Tryd.func45 (by kernel_rfl) rfl #[ux] (by rfl) rfl rfl (by simp only [List.map_toArray, List.map_cons, List.map_nil]; rfl) ?_
    with_reducible refine (Norm_calls X ux p _ (fun k hk => Nat.lt_of_lt_of_le (HXw.out k hk) HBd.out.size) (HU.out.below HBd.out) HPS.out.1 HPS.out.2).mono ?_
    rintro e w5 ⟨v5, rfl, hv5, hb5⟩
    refine ⟨_, rfl, ?_⟩
    have H5 := Aside0.mk hv5
    have HB5 := Aside0.mk (below_step HBd.out hb5)
    have z0 := pw_cell_below hb5 hHeld.1
    have z1 := pw_cell_below hb5 hHeld.2
    clear hv5 hb5 hHeld
    refine hK.out _ _ ⟨z0, z1⟩ (fun hHeld => ?_)
    clear hK K
    refine norm_ (a' := ?_) ?_ ?_
    rotate_left
    ·show Act.put _ (some 42) _ = _
     simp only [Act.put, List.setIfInBounds_toArray, List.set_cons_zero, List.set_cons_succ, i64_w, i32_w]
     rfl
    refine one_ (i := 11) (N := some 48) #[true, true, true, true, true, true, true, true, true, true, true, true, false] rfl rfl (by kernel_rfl) (by decide) (fun K hK => ?_)
    refine goes_ Tryd.func44 (by kernel_rfl) rfl #[v5, ux] (by rfl) rfl rfl (by simp only [List.map_toArray, List.map_cons, List.map_nil]; rfl) ?_
    with_reducible refine (Alike_calls X v5 ux (makeL p [] 2) p _ H5.out (HU.out.below HB5.out)).mono ?_
    rintro e w6 ⟨rfl, hb6⟩
    refine ⟨_, rfl, ?_⟩
    rw [← HBQ.out]
    have HB6 := Aside0.mk (below_step HB5.out hb6)
    have z2 := pw_cell_below hb6 hHeld.1
    have z3 := pw_cell_below hb6 hHeld.2
    clear hb6 hHeld
    refine hK.out _ _ ⟨z2, z3⟩ (fun hHeld => ?_)
    clear hK K
    refine norm_ (a' := ?_) ?_ ?_
    rotate_left
    ·show Act.put _ (some 48) _ = _
     simp only [Act.put, List.setIfInBounds_toArray, List.set_cons_zero, List.set_cons_succ, i64_w, i32_w]
     rfl
    refine pure_ (i := 12) (N := some 49) (v := ?_) (a' := ?_) #[true, true, true, true, true, true, true, true, true, true, true, true, true] rfl rfl (by kernel_rfl) (fun _ _ _ h => h) (Or.inl ⟨by rfl, ?_⟩) ?_ ?_
    rotate_left
    ·intro w'
     go_simp
     with_reducible rfl
    rotate_left
    ·simp only [Act.put, List.setIfInBounds_toArray, List.set_cons_zero, List.set_cons_succ, i64_w, i32_w]
     rfl
    refine done_ (by kernel_rfl) ?_
    clear hHeld z0 z1 yd0 yd1
    have HB7 := Aside0.mk (below_step HB.out HB6.out)
    cases bq
    case false =>
     have q0 : q = false := by
      rw [HQ.out]
      refine decide_eq_false (fun s => ?_)
      have h1 := (s.2.1 i hi).1
      rw [← HPE.out] at h1
      have h2 := HBQ.out
      rw [decide_eq_true h1] at h2
      cases h2
     subst q0
     go_wp2_with fail
     go_ret
     exact ⟨rfl, HBE.out _ HB7.out⟩
    case true =>
     have HN1 := Aside0.mk (show makeL p [] 2 = p from of_decide_eq_true HBQ.out.symm)
     clear HBQ
     go_wp2_with fail
     obtain ⟨wo, hwo⟩ : ∃ wo, wo = w6 := ⟨_, rfl⟩
     subst hwo
     have HG7 := Aside0.mk (HG.out.step HB7.out)
     have HP7 := Aside0.mk (HP.out.below HB7.out)
     have HU7 := Aside0.mk (HU.out.below HB6.out)
     have y7 := HG7.out.cell 0 rfl
     have x7 := pw_cell_below HB6.out hcx
     have HX7 := Aside0.mk (show ∀ k, X k → k < wo.heap.size from fun k hk => Nat.lt_of_lt_of_le (HX1.out k hk) HB7.out.size)
     clear HB6 HB5 HBd H5 z2 z3 y0 hcx
     go_loopg [5] i (fun m v5 w' => ∃ (j : Nat), v5 = .int .i64 j ∧ Aside0 (j + m = i) ∧ Aside0 (∀ a, a < j → (makeL p (parts.getD a []) 8).length = 0) ∧ Aside0 (Below wo.heap.size wo w'))
     case atStart => exact ⟨0, rfl, ⟨by omega⟩, ⟨fun a h => by omega⟩, ⟨Below.refl _ _⟩⟩
     case round =>
      obtain ⟨j, rfl, HJ2, HO2, HB2⟩ := hrel
      have HB8 := Aside0.mk (below_step HB7.out HB2.out)
      cases gk with
      | zero =>
       have hj : j = i := by have := HJ2.out; omega
       have e3 : decide ((j : Int) < (i : Int)) = false := decide_eq_false (by omega)
       have e4 : decide (j < i) = false := decide_eq_false (by omega)
       have HO3 := Aside0.mk (show ∀ a, a < i + 1 → PartOk parts a from fun a h => by
        rcases Nat.lt_or_ge a i with h1 | h1
        ·exact HO.out a h1
        ·obtain rfl : a = i := by omega
         unfold PartOk
         rw [← HPE.out]
         exact ⟨HN1.out, fun b hb => HO2.out b (by omega)⟩)
       go_wp2_with fail
       go_roundg k1
       case measure => omega
       case rel => exact ⟨i + 1, by go_num, ⟨by have := HJ.out; omega⟩, HO3, HB8⟩
      | succ k2 =>
       have hj : j < i := by have := HJ2.out; omega
       have hj3 : j < 2000 := by omega
       have e3 : decide ((j : Int) < (i : Int)) = true := decide_eq_true (by omega)
       have e4 : decide (j < i) = true := decide_eq_true hj
       have hj0 : (0 : Int) ≤ (j : Int) := by omega
       have hj1 : (j : Int) < (parts.length : Int) := by omega
       obtain ⟨ap2, cx2, uj, ex2, huj, hcj⟩ := (HP7.out.below HB2.out).row j (by omega)
       cases ex2
       have HJS := Aside0.mk (HSM.out _ (mem_getD parts [] j (by omega)))
       have HUJ := Aside0.mk huj
       clear huj
       obtain ⟨s, hs⟩ : ∃ s, s = parts.getD j [] := ⟨_, rfl⟩
       rw [← hs] at HUJ HJS
       have HSE := Aside0.mk hs
       clear hs
       have HBd := Aside0.mk (below_drew (Below.refl wr.heap.size wr))
       have HBo := Aside0.mk (below_step HB2.out HBd.out)
       have yd0 := pw_cell_below HBo.out y7
       have yd1 := pw_cell_below HBo.out x7
       have yd2 := pw_cell_below HBd.out hcj
       go_wp2_with fail
       refine start_ (n := 13) (S := fun w' => w'.cell? ⟨g, 0, none⟩ = some (.slice (some ap) parts.length cp) ∧ w'.cell? (ap.add i) = some ux ∧ w'.cell? (ap.add j) = some uj) (ds := []) #[false, false, false, false, false, false, false, false, false, false, false, false, false] (by kernel_rfl) rfl rfl ⟨yd0, yd1, yd2⟩ (fun hHeld => ?_)
       refine pure_ (i := 0) (N := some 55) (v := ?_) (a' := ?_) #[true, false, false, false, false, false, false, false, false, false, false, false, false] rfl rfl (by kernel_rfl) (fun _ _ _ h => h) (Or.inl ⟨by rfl, ?_⟩) ?_ ?_
       rotate_left
       ·intro w'
        go_simp
        with_reducible rfl
       rotate_left
       ·simp only [Act.put, List.setIfInBounds_toArray, List.set_cons_zero, List.set_cons_succ, i64_w, i32_w]
        rfl
       refine pure_ (i := 2) (N := some 57) (v := ?_) (a' := ?_) #[true, false, true, false, false, false, false, false, false, false, false, false, false] rfl rfl (by kernel_rfl) (fun _ _ _ h => h) (Or.inl ⟨by rfl, ?_⟩) ?_ ?_
       rotate_left
       ·intro w'
        go_simp
        with_reducible rfl
       rotate_left
       ·simp only [Act.put, List.setIfInBounds_toArray, List.set_cons_zero, List.set_cons_succ, i64_w, i32_w]
        rfl
       refine pure_ (i := 5) (N := some 60) (v := ?_) (a' := ?_) #[true, false, true, false, false, true, false, false, false, false, false, false, false] rfl rfl (by kernel_rfl) (fun _ _ _ h => h) (Or.inl ⟨by rfl, ?_⟩) ?_ ?_
       rotate_left
       ·intro w'
        go_simp
        with_reducible rfl
       rotate_left
       ·simp only [Act.put, List.setIfInBounds_toArray, List.set_cons_zero, List.set_cons_succ, i64_w, i32_w]
        rfl
       refine pure_ (i := 7) (N := some 62) (v := ?_) (a' := ?_) #[true, false, true, false, false, true, false, true, false, false, false, false, false] rfl rfl (by kernel_rfl) (fun _ _ _ h => h) (Or.inl ⟨by rfl, ?_⟩) ?_ ?_
       rotate_left
       ·intro w'
        go_simp
        with_reducible rfl
       rotate_left
       ·simp only [Act.put, List.setIfInBounds_toArray, List.set_cons_zero, List.set_cons_succ, i64_w, i32_w]
        rfl
       refine take_ (i := 1) (N := some 56) (v := ?_) (a' := ?_) #[true, true, true, false, false, true, false, true, false, false, false, false, false] rfl rfl (by kernel_rfl) (fun _ _ _ h => h) (Or.inl ⟨by rfl, ?_⟩) hHeld ?_ ?_
       rotate_left
       ·rintro w' ⟨s0, s1, s2⟩
        go_simp
        with_reducible rfl
       rotate_left
       ·simp only [Act.put, List.setIfInBounds_toArray, List.set_cons_zero, List.set_cons_succ, i64_w, i32_w]
        rfl
       refine pure_ (i := 3) (N := some 58) (v := ?_) (a' := ?_) #[true, true, true, true, false, true, false, true, false, false, false, false, false] rfl rfl (by kernel_rfl) (fun _ _ _ h => h) (Or.inl ⟨by rfl, ?_⟩) ?_ ?_
       rotate_left
       ·intro w'
        go_simp
        with_reducible rfl
       rotate_left
       ·simp only [Act.put, List.setIfInBounds_toArray, List.set_cons_zero, List.set_cons_succ, i64_w, i32_w]
        rfl
       refine take_ (i := 4) (N := some 59) (v := ?_) (a' := ?_) #[true, true, true, true, true, true, false, true, false, false, false, false, false] rfl rfl (by kernel_rfl) (fun _ _ _ h => h) (Or.inl ⟨by rfl, ?_⟩) hHeld ?_ ?_
       rotate_left
       ·rintro w' ⟨s0, s1, s2⟩
        go_simp
        with_reducible rfl
       rotate_left
       ·simp only [Act.put, List.setIfInBounds_toArray, List.set_cons_zero, List.set_cons_succ, i64_w, i32_w]
        rfl
       refine take_ (i := 6) (N := some 61) (v := ?_) (a' := ?_) #[true, true, true, true, true, true, true, true, false, false, false, false, false] rfl rfl (by kernel_rfl) (fun _ _ _ h => h) (Or.inl ⟨by rfl, ?_⟩) hHeld ?_ ?_
       rotate_left
       ·rintro w' ⟨s0, s1, s2⟩
        go_simp
        with_reducible rfl
       rotate_left
       ·simp only [Act.put, List.setIfInBounds_toArray, List.set_cons_zero, List.set_cons_succ, i64_w, i32_w]
        rfl
       refine pure_ (i := 8) (N := some 63) (v := ?_) (a' := ?_) #[true, true, true, true, true, true, true, true, true, false, false, false, false] rfl rfl (by kernel_rfl) (fun _ _ _ h => h) (Or.inl ⟨by rfl, ?_⟩) ?_ ?_
       rotate_left
       ·intro w'
        go_simp
        with_reducible rfl
       rotate_left
       ·simp only [Act.put, List.setIfInBounds_toArray, List.set_cons_zero, List.set_cons_succ, i64_w, i32_w]
        rfl
       refine take_ (i := 9) (N := some 64) (v := ?_) (a' := ?_) #[true, true, true, true, true, true, true, true, true, true, false, false, false] rfl rfl (by kernel_rfl) (fun _ _ _ h => h) (Or.inl ⟨by rfl, ?_⟩) hHeld ?_ ?_
       rotate_left
       ·rintro w' ⟨s0, s1, s2⟩
        go_simp
        with_reducible rfl
       rotate_left
       ·simp only [Act.put, List.setIfInBounds_toArray, List.set_cons_zero, List.set_cons_succ, i64_w, i32_w]
        rfl
       refine one_ (i := 10) (N := some 65) #[true, true, true, true, true, true, true, true, true, true, true, false, false] rfl rfl (by kernel_rfl) (by decide) (fun K hK => ?_)
       refine goes_ Tryd.func46 (by kernel_rfl) rfl #[ux, uj] (by rfl) rfl rfl (by simp only [List.map_toArray, List.map_cons, List.map_nil]; rfl) ?_
       with_reducible refine (Inter_calls X ux uj p s _ (fun k hk => Nat.lt_of_lt_of_le (HX7.out k hk) HBo.out.size) (HU7.out.below HBo.out) (HUJ.out.below HBd.out) HPS.out.1 HJS.out.1 HPS.out.2 HJS.out.2).mono ?_
       rintro e w5 ⟨v5, rfl, hv5, hb5⟩
       refine ⟨_, rfl, ?_⟩
       have H5 := Aside0.mk hv5
       have HB5 := Aside0.mk (below_step HBo.out hb5)
       have z0 := pw_cell_below hb5 hHeld.1
       have z1 := pw_cell_below hb5 hHeld.2.1
       have z2 := pw_cell_below hb5 hHeld.2.2
       clear hv5 hb5 hHeld
       obtain ⟨A5, c5, e5, _, _⟩ := H5.out.now
       subst e5
       refine hK.out _ _ ⟨z0, z1, z2⟩ (fun hHeld => ?_)
       clear hK K
       refine norm_ (a' := ?_) ?_ ?_
       rotate_left
       ·show Act.put _ (some 65) _ = _
        simp only [Act.put, List.setIfInBounds_toArray, List.set_cons_zero, List.set_cons_succ, i64_w, i32_w]
        rfl
       refine pure_ (i := 11) (N := some 66) (v := ?_) (a' := ?_) #[true, true, true, true, true, true, true, true, true, true, true, true, false] rfl rfl (by kernel_rfl) (fun _ _ _ h => h) (Or.inl ⟨by rfl, ?_⟩) ?_ ?_
       rotate_left
       ·intro w'
        go_simp
        with_reducible rfl
       rotate_left
       ·simp only [Act.put, List.setIfInBounds_toArray, List.set_cons_zero, List.set_cons_succ, i64_w, i32_w]
        rfl
       refine pure_ (i := 12) (N := some 67) (v := ?_) (a' := ?_) #[true, true, true, true, true, true, true, true, true, true, true, true, true] rfl rfl (by kernel_rfl) (fun _ _ _ h => h) (Or.inl ⟨by rfl, ?_⟩) ?_ ?_
       rotate_left
       ·intro w'
        go_simp
        with_reducible rfl
       rotate_left
       ·simp only [Act.put, List.setIfInBounds_toArray, List.set_cons_zero, List.set_cons_succ, i64_w, i32_w]
        rfl
       refine done_ (by kernel_rfl) ?_
       clear hHeld z0 z1 z2 yd0 yd1 yd2
       rcases Nat.eq_zero_or_pos (makeL p s 8).length with c | c
       ·have f1 : decide (((makeL p s 8).length : Int) > 0) = false := decide_eq_false (by omega)
        have f2 : decide (0 < (makeL p s 8).length) = false := decide_eq_false (by omega)
        have HO3 := Aside0.mk (show ∀ a, a < j + 1 → (makeL p (parts.getD a []) 8).length = 0 from fun a h => by
         rcases Nat.lt_or_ge a j with h1 | h1
         ·exact HO2.out a h1
         ·obtain rfl : a = j := by omega
          rw [← HSE.out]
          exact c)
        have f3 : (makeL p s 8).length ≤ 0 := by omega
        clear c
        go_wp2_with fail
        go_roundg k2
        case measure => omega
        case rel => exact ⟨j + 1, by go_num, ⟨by have := HJ2.out; omega⟩, HO3, HB5⟩
       ·have f1 : decide (((makeL p s 8).length : Int) > 0) = true := decide_eq_true (by omega)
        have f2 : decide (0 < (makeL p s 8).length) = true := decide_eq_true c
        have q0 : q = false := by
         rw [HQ.out]
         refine decide_eq_false (fun t => ?_)
         have h1 := (t.2.1 i hi).2 j hj
         rw [← HPE.out, ← HSE.out] at h1
         omega
        subst q0
        go_wp2_with fail
        go_ret
        exact ⟨rfl, HBE.out _ (below_step HB7.out HB5.out)⟩
   | zero =>
    have hi : i = parts.length := by have := HJ.out; omega
    have e1 : decide ((i : Int) < (parts.length : Int)) = false := decide_eq_false (by omega)
    have e2 : decide (i < parts.length) = false := decide_eq_false (by omega)
    have HO4 := Aside0.mk (show ∀ a, a < parts.length → PartOk parts a from fun a h => HO.out a (by omega))
    have HI := Aside0.mk hi
    have hi2 : i ≤ 2000 := by have := HL.out.1; omega
    clear hi HO
    go_wp2_with fail
    go_loopg [6] tags.length (fun m v6 w' => ∃ (b : Nat), v6 = .int .i64 b ∧ Aside0 (b + m = tags.length) ∧ Aside0 (∀ a, a < b → RowOk parts.length next tags a) ∧ Aside0 (Below w1.heap.size w1 w'))
    case atStart => exact ⟨0, rfl, ⟨by omega⟩, ⟨fun a h => by omega⟩, HB⟩
    case round =>
     clear y0 HGi HB
     obtain ⟨b, rfl, HJ, HO, HB⟩ := hrel
     have HGi := Aside0.mk (HG.out.step HB.out)
     have y0 := HGi.out.cell 0 rfl
     have y1 := HGi.out.cell 1 rfl
     have y2 := HGi.out.cell 2 rfl
     cases gk with
     | zero =>
      have hb : b = tags.length := by have := HJ.out; omega
      have e3 : decide ((b : Int) < (tags.length : Int)) = false := decide_eq_false (by omega)
      have e4 : decide (b < tags.length) = false := decide_eq_false (by omega)
      have q0 : q = true := by
       rw [HQ.out]
       exact decide_eq_true ⟨HL.out, HO4.out, fun a h => HO.out a (by omega)⟩
      subst q0
      clear hb
      go_wp2_with fail
      go_ret
      exact ⟨rfl, HBE.out _ HB.out⟩
     | succ k1 =>
      have hb : b < tags.length := by have := HJ.out; omega
      have hb2 : b < 2000 := by have := HL.out; omega
      have hbn : b < next.length := by have := HL.out; omega
      have e3 : decide ((b : Int) < (tags.length : Int)) = true := decide_eq_true (by omega)
      have e4 : decide (b < tags.length) = true := decide_eq_true hb
      have hb0 : (0 : Int) ≤ (b : Int) := by omega
      have hb1 : (b : Int) < (tags.length : Int) := by omega
      have hb3 : (b : Int) < (next.length : Int) := by omega
      obtain ⟨an, cx, ux, ex, hux, hcx⟩ := (HN.out.below HB.out).row b hbn
      cases ex
      obtain ⟨at1, ct1, et, yt⟩ := int_cell (HT.out.below HB.out) b hb
      cases et
      have HF := Aside0.mk (show ∀ (P : Prop), (RowOk parts.length next tags b → P) → (q = true → P) from fun P h hq => h ((of_decide_eq_true (HQ.out.symm.trans hq)).2.2 b hb))
      have HR := Aside0.mk (show RowOk parts.length next tags b ↔ RowOk parts.length next tags b from Iff.rfl)
      unfold RowOk at HR
      have HR2 := Aside0.mk (HR.out.2)
      have HR1 := Aside0.mk (HR.out.1)
      clear HR
      obtain ⟨r, hr⟩ : ∃ r, r = next.getD b [] := ⟨_, rfl⟩
      obtain ⟨t, htt⟩ : ∃ t, t = tags.getD b 0 := ⟨_, rfl⟩
      rw [← hr] at hux HR2
      rw [← htt] at yt HR2
      have HF2 := Aside0.mk (show q = true → (r.length = parts.length ∧ -1 ≤ t ∧ ∀ j, j < r.length → -1 ≤ r.getD j 0 ∧ r.getD j 0 < (tags.length : Int)) from fun hq => by
       have := HF.out _ (fun h => h) hq
       unfold RowOk at this
       rw [← hr, ← htt] at this
       exact this)
      have HF3 := Aside0.mk (show (r.length = parts.length ∧ -1 ≤ t ∧ ∀ j, j < r.length → -1 ≤ r.getD j 0 ∧ r.getD j 0 < (tags.length : Int)) → RowOk parts.length next tags b from fun h => by
       unfold RowOk
       rw [← hr, ← htt]
       exact h)
      clear HF HR1 HR2 hr htt
      obtain ⟨Ar, cr, rfl, _, _⟩ := hux.now
      have HU := Aside0.mk hux
      have mr := hux.max
      clear hux
      have h3 : r.length ≠ parts.length ∨ (r.length = parts.length ∧ t < -1) ∨ (r.length = parts.length ∧ -1 ≤ t) := by omega
      rcases h3 with h | ⟨h, h2⟩ | ⟨h, h2⟩
      case' inl =>
       have q0 : q = false := by
        cases hq : q
        ·rfl
        ·exact absurd (HF2.out hq).1 h
       have f1 : ((r.length : Int) != (parts.length : Int)) = true := bne_iff_ne.mpr (by omega)
       have f1n : ((r.length : Int) == (parts.length : Int)) = false := beq_eq_false_iff_ne.mpr (by omega)
      case' inr.inl =>
       have q0 : q = false := by
        cases hq : q
        ·rfl
        ·have := (HF2.out hq).2.1; omega
       have f1 : ((r.length : Int) != (parts.length : Int)) = false := bne_eq_false_iff_eq.mpr (by omega)
       have f1n : ((r.length : Int) == (parts.length : Int)) = true := beq_iff_eq.mpr (by omega)
       have f2 : decide (t < -1) = true := decide_eq_true h2
       clear h
      case' inr.inr =>
       have f1 : ((r.length : Int) != (parts.length : Int)) = false := bne_eq_false_iff_eq.mpr (by omega)
       have f1n : ((r.length : Int) == (parts.length : Int)) = true := beq_iff_eq.mpr (by omega)
       have f2 : decide (t < -1) = false := decide_eq_false (by omega)
       have HRL := Aside0.mk h
       clear h
      case inr.inr =>
       go_wp2_with fail
       go_quiet (fail)
       have HBq := Aside0.mk (pw_below_drewN HB.out nq)
       have hcx2 := pw_cell_below (bn wr nq) hcx
       have HUq := Aside0.mk (HU.out.below (bn wr nq))
       go_wp2_with fail
       obtain ⟨wo, hwo⟩ : ∃ wo, wo = wr.drewN nq := ⟨_, rfl⟩
       rw [← hwo] at HBq hcx2 HUq ⊢
       clear hwo
       go_loopg [7] r.length (fun m v7 w' => ∃ (j : Nat), v7 = .int .i64 j ∧ Aside0 (j + m = r.length) ∧ Aside0 (∀ a, a < j → -1 ≤ r.getD a 0 ∧ r.getD a 0 < (tags.length : Int)) ∧ w' = wo)
       case atStart => exact ⟨0, rfl, ⟨by omega⟩, ⟨fun a h => by omega⟩, rfl⟩
       case round =>
        obtain ⟨j, rfl, HJ2, HO2, hw⟩ := hrel
        subst hw
        clear y0 y1 y2 hcx
        have HGj := Aside0.mk (HG.out.step HBq.out)
        have y1 := HGj.out.cell 1 rfl
        cases gk with
        | zero =>
         have hj : j = r.length := by have := HJ2.out; omega
         have e5 : decide ((j : Int) < (r.length : Int)) = false := decide_eq_false (by omega)
         have e6 : decide (j < r.length) = false := decide_eq_false (by omega)
         have HO3 := Aside0.mk (show ∀ a, a < b + 1 → RowOk parts.length next tags a from fun a h => by
          rcases Nat.lt_or_ge a b with h1 | h1
          ·exact HO.out a h1
          ·obtain rfl : a = b := by omega
           exact HF3.out ⟨HRL.out, h2, fun c hc => HO2.out c (by omega)⟩)
         clear hj
         go_wp2_with fail
         go_roundg k1
         case measure => omega
         case rel => exact ⟨b + 1, by go_num, ⟨by have := HJ.out; omega⟩, HO3, HBq⟩
        | succ k2 =>
         have hj : j < r.length := by have := HJ2.out; omega
         have hj2 : j < 2000 := by have := HRL.out; have := HL.out; omega
         have e5 : decide ((j : Int) < (r.length : Int)) = true := decide_eq_true (by omega)
         have e6 : decide (j < r.length) = true := decide_eq_true hj
         have hj0 : (0 : Int) ≤ (j : Int) := by omega
         have hj1 : (j : Int) < (r.length : Int) := by omega
         obtain ⟨ar, cr1, er, yr⟩ := int_cell HUq.out j hj
         cases er
         obtain ⟨x, hx⟩ : ∃ x, x = r.getD j 0 := ⟨_, rfl⟩
         rw [← hx] at yr
         have HXE := Aside0.mk hx
         clear hx
         have h4 : x < -1 ∨ (-1 ≤ x ∧ (tags.length : Int) ≤ x) ∨ (-1 ≤ x ∧ x < (tags.length : Int)) := by omega
         rcases h4 with c | ⟨c, c2⟩ | ⟨c, c2⟩
         case' inl =>
          have q0 : q = false := by
           cases hq : q
           ·rfl
           ·have := (HF2.out hq).2.2 j hj; rw [← HXE.out] at this; omega
          have f3 : decide (x < -1) = true := decide_eq_true c
         case' inr.inl =>
          have q0 : q = false := by
           cases hq : q
           ·rfl
           ·have := (HF2.out hq).2.2 j hj; rw [← HXE.out] at this; omega
          have f3 : decide (x < -1) = false := decide_eq_false (by omega)
          have f4 : decide (x ≥ (tags.length : Int)) = true := decide_eq_true c2
          have f5 : decide ((tags.length : Int) ≤ x) = true := decide_eq_true c2
         case' inr.inr =>
          have f3 : decide (x < -1) = false := decide_eq_false (by omega)
          have f4 : decide (x ≥ (tags.length : Int)) = false := decide_eq_false (by omega)
          have f5 : decide ((tags.length : Int) ≤ x) = false := decide_eq_false (by omega)
         case inr.inr =>
          have HO3 := Aside0.mk (show ∀ a, a < j + 1 → -1 ≤ r.getD a 0 ∧ r.getD a 0 < (tags.length : Int) from fun a h => by
           rcases Nat.lt_or_ge a j with h1 | h1
           ·exact HO2.out a h1
           ·obtain rfl : a = j := by omega
            rw [← HXE.out]
            exact ⟨c, c2⟩)
          go_wp2_with fail
          go_roundg k2
          case measure => omega
          case rel => exact ⟨j + 1, by go_num, ⟨by have := HJ2.out; omega⟩, HO3, rfl⟩
         all_goals
          clear HF2 HF3 HQ
          subst q0
          go_wp2_with fail
          go_ret
          exact ⟨rfl, HBE.out _ HBq.out⟩
      all_goals
       clear HF2 HF3 HQ
       subst q0
       go_wp2_with fail
       go_quiet (fail)
       have HBq := Aside0.mk (pw_below_drewN HB.out nq)
       go_wp2_with fail
       go_ret
       exact ⟨rfl, HBE.out _ HBq.out⟩
 all_goals
  clear HQ
  subst q0
  go_enter Tryd.func35, Tryd.ntmps35
  go_wp2_with fail
  go_ret
  exact ⟨rfl, below_alloc (Below.refl _ _) _⟩
end Go.Proofs.YtfbfeimildkigaaDoor.P
namespace Go.Proofs.YtfbfeimildkigaaDoor.P
open Go Go.RowKit Go.Proofs.YtfbfeimildkigaaDoorW.PrintWords Go.Proofs.YtfbfeimildkigaaDoorW.PrintLast Go.Proofs.YtfbfeimildkigaaDoorW.PrintMore Go.Proofs.YtfbfeimildkigaaDoor.PX
set_option linter.unusedVariables false
set_option linter.unusedSimpArgs false
set_option maxRecDepth 100000
def toL (next : List (List Int)) (l : List Int) (i k : Nat) : Int := if (next.getD i []).getD k 0 < 0 ∨ l.getD ((next.getD i []).getD k 0).toNat 0 = 0 then -1 else (next.getD i []).getD k 0
def kindL (next : List (List Int)) (l of_ : List Int) (i k : Nat) : Int := if toL next l i k < 0 then -1 else of_.getD (toL next l i k).toNat 0
theorem toL_lt (next : List (List Int)) (l : List Int) (i k : Nat) (n : Int) (h : (next.getD i []).getD k 0 < n) (hn : 0 ≤ n) : toL next l i k < n := by
 unfold toL
 split <;> omega
set_option maxHeartbeats 2000000 in
theorem to_calls (X : Nat → Prop) (vp vn vt vl : Value) (parts : List (List Sp)) (next : List (List Int)) (tags l : List Int) (i k : Nat) (w : World) (hp : PV kSps X w vp parts) (hn : PV kRow X w vn next) (ht : PV kInt X w vt tags) (hl : PV kInt X w vl l)
  (hi : i < next.length) (hk : k < (next.getD i []).length) (hx : (next.getD i []).getD k 0 < (l.length : Int)) :
  Calls Tryd.prog 76 #[.agg #[vp, vn, vt], vl, .int .i64 (i : Int), .int .i64 (k : Int)] w fun e w' => e = .returned (.int .i64 (toL next l i k)) ∧ Below w.heap.size w w' := by
 have H1 := Aside0.mk hn
 have H3 := Aside0.mk hl
 have m1 := hn.max
 have m3 := hl.max
 obtain ⟨Ap, cp, rfl, _, _⟩ := hp.now
 obtain ⟨At, ct, rfl, _, _⟩ := ht.now
 obtain ⟨Al, cl, rfl, _, _⟩ := hl.now
 obtain ⟨an, cn, u, rfl, hu, hcu⟩ := hn.row i hi
 obtain ⟨ar, cr, rfl, hcr⟩ := int_cell hu k hk
 have mu := hu.max
 have yu := fun o => pw_cell_below (below_alloc (Below.refl w.heap.size w) o) hcu
 have yr := fun o => pw_cell_below (below_alloc (Below.refl w.heap.size w) o) hcr
 have hl1 := fun o => hl.below (below_alloc (Below.refl w.heap.size w) o)
 clear hp hn ht hl hu
 obtain ⟨r, hr⟩ : ∃ r, r = toL next l i k := ⟨_, rfl⟩
 rw [← hr]
 unfold toL at hr
 generalize (next.getD i []) = row at *
 generalize row.getD k 0 = x at *
 have HR := Aside0.mk hr
 clear hr
 have hi0 : (0 : Int) ≤ (i : Int) := by omega
 have hi1 : (i : Int) < (next.length : Int) := by omega
 have hk0 : (0 : Int) ≤ (k : Int) := by omega
 have hk1 : (k : Int) < (row.length : Int) := by omega
 by_cases c : x < 0
 ·have d1 : decide (x < 0) = true := decide_eq_true c
  have HR2 := Aside0.mk (HR.out.trans (if_pos (.inl c)))
  go_enter Tryd.func76, Tryd.ntmps76
  go_wp2_with fail
  go_ret
  obtain rfl := HR2.out
  exact ⟨rfl, below_alloc (Below.refl _ _) _⟩
 ·have d1 : decide (x < 0) = false := decide_eq_false c
  have hx0 : 0 ≤ x := by omega
  obtain ⟨n, rfl⟩ := Int.eq_ofNat_of_zero_le hx0
  rw [Int.toNat_natCast] at HR
  have hnl : n < l.length := by omega
  obtain ⟨al, cl2, e, yl0⟩ := int_cell (hl1 (.cells #[] 0)) n hnl
  cases e
  have yl : ∀ o, (w.alloc o).cell? (al.add n) = some (.int .i64 (l.getD n 0)) := fun o => by
   obtain ⟨al', cl3, e, y⟩ := int_cell (hl1 o) n hnl
   cases e
   exact y
  clear hl1 yl0
  generalize l.getD n 0 = z at *
  by_cases c2 : z = 0
  case' pos =>
   have d2 : (z == 0) = true := beq_iff_eq.mpr c2
   have HR2 := Aside0.mk (HR.out.trans (if_pos (.inr c2)))
  case' neg =>
   have d2 : (z == 0) = false := beq_eq_false_iff_ne.mpr c2
   have HR2 := Aside0.mk (HR.out.trans (if_neg (fun h => h.elim c c2)))
  all_goals
   clear c2
   go_enter Tryd.func76, Tryd.ntmps76
   go_wp2_with fail
   go_ret
   obtain rfl := HR2.out
   exact ⟨rfl, below_alloc (Below.refl _ _) _⟩
set_option maxHeartbeats 2000000 in
theorem kind_calls (X : Nat → Prop) (vp vn vt vl vo : Value) (parts : List (List Sp)) (next : List (List Int)) (tags l of_ : List Int) (i k : Nat) (w : World) (hp : PV kSps X w vp parts) (hn : PV kRow X w vn next) (ht : PV kInt X w vt tags) (hl : PV kInt X w vl l) (ho : PV kInt X w vo of_)
  (hi : i < next.length) (hk : k < (next.getD i []).length) (hx : (next.getD i []).getD k 0 < (l.length : Int)) (hol : of_.length = l.length) :
  Calls Tryd.prog 68 #[.agg #[vp, vn, vt], vl, vo, .int .i64 (i : Int), .int .i64 (k : Int)] w fun e w' => e = .returned (.int .i64 (kindL next l of_ i k)) ∧ Below w.heap.size w w' := by
 have H0 := Aside0.mk hp
 have H1 := Aside0.mk hn
 have H2 := Aside0.mk ht
 have H3 := Aside0.mk hl
 have H4 := Aside0.mk ho
 have HI := Aside0.mk hi
 have HK := Aside0.mk hk
 have HXX := Aside0.mk hx
 have mo := ho.max
 obtain ⟨Ap, cp, rfl, _, _⟩ := hp.now
 obtain ⟨An, cn, rfl, _, _⟩ := hn.now
 obtain ⟨At, ct, rfl, _, _⟩ := ht.now
 obtain ⟨Al, cl, rfl, _, _⟩ := hl.now
 obtain ⟨Ao, co, rfl, _, _⟩ := ho.now
 have HT1 := Aside0.mk (toL_lt next l i k (of_.length : Int) (by omega) (by omega))
 clear hp hn ht hl ho hx hi hk hol
 obtain ⟨r, hr⟩ : ∃ r, r = kindL next l of_ i k := ⟨_, rfl⟩
 rw [← hr]
 unfold kindL at hr
 have HR := Aside0.mk hr
 clear hr
 obtain ⟨t, ht⟩ : ∃ t, t = toL next l i k := ⟨_, rfl⟩
 rw [← ht] at HR HT1
 have HTT := Aside0.mk ht.symm
 clear ht
 rcases Int.lt_or_le t 0 with c | c
 case' inl =>
  have d1 : decide (t < 0) = true := decide_eq_true c
  have HR2 := Aside0.mk (HR.out.trans (if_pos c))
 case' inr =>
  have d1 : decide (t < 0) = false := decide_eq_false (by omega)
  have HR2 := Aside0.mk (HR.out.trans (if_neg (by omega)))
  obtain ⟨n, rfl⟩ := Int.eq_ofNat_of_zero_le c
  rw [Int.toNat_natCast] at HR2
  have hn0 : (0 : Int) ≤ (n : Int) := by omega
  have hn1 : (n : Int) < (of_.length : Int) := HT1.out
  have HC := Aside0.mk (fun (W : World) (hb : Below w.heap.size w W) => int_cell (H4.out.below hb) n (by omega))
 all_goals
  go_enter Tryd.func68, Tryd.ntmps68
  go_wp2_with fail
  refine (to_calls X _ _ _ _ parts next tags l i k _ (H0.out.below (below_alloc (Below.refl _ _) _)) (H1.out.below (below_alloc (Below.refl _ _) _)) (H2.out.below (below_alloc (Below.refl _ _) _)) (H3.out.below (below_alloc (Below.refl _ _) _)) HI.out HK.out HXX.out).mono ?_
  rintro e w1 ⟨rfl, hb⟩
  have HB := Aside0.mk (below_step (below_alloc (Below.refl w.heap.size w) _) hb)
  clear hb
  rw [HTT.out]
 ·obtain ⟨ao, co2, eo, yo⟩ := HC.out w1 HB.out
  cases eo
  go_wp2_with fail
  go_ret
  obtain rfl := HR2.out
  exact ⟨rfl, HB.out⟩
 ·go_wp2_with fail
  go_ret
  obtain rfl := HR2.out
  exact ⟨rfl, HB.out⟩
end Go.Proofs.YtfbfeimildkigaaDoor.P
