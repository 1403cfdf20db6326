/- glyphcutterlaw14.ClassFew returns true at every input, and the input reads behind the call as it read before. The condition: the listed variables read as the row says; the card ties them to the program's text. -/
import Derived.Test.YtfbfeimildkigaaDoorCf25
namespace Go.Proofs.YtfbfeimildkigaaDoor.P
open Go Go.RowKit Go.Proofs.YtfbfeimildkigaaDoorW.PrintWords Go.Proofs.YtfbfeimildkigaaDoor.PX
set_option linter.unusedVariables false
set_option maxRecDepth 100000
def kP : List (List Sp) := [[⟨97, 97⟩]]
def kN0 : List (List Int) := [[1], [-1]]
def kT : List Int := [-1, 0]
def kD : DfaS := ⟨kP, kN0, kT⟩
def kN : List (List Int) := [(List.range 256).map (fun c => if c = 97 then 1 else -1), List.replicate 256 (-1)]
def kC : List Int := (List.range 256).map (fun c => if c = 97 then 1 else 0)
def kTN : List (List Int) := [[-1, 1], [-1, -1]]
theorem k_least : leastL kP kN0 kT = kD := by
  have h1 : (leastL kP kN0 kT).parts = kP := by decide +kernel
  have h2 : (leastL kP kN0 kT).next = kN0 := by decide +kernel
  have h3 : (leastL kP kN0 kT).tags = kT := by decide +kernel
  cases h : leastL kP kN0 kT
  rw [h] at h1 h2 h3
  cases h1; cases h2; cases h3
  rfl
theorem k_part : ∀ p ∈ kP, (Sm p ∧ p.length ≤ 10000) ∧ ∀ s ∈ makeL p [] 2, SpOk s := by
  intro p hp
  obtain rfl : p = [⟨97, 97⟩] := by simpa [kP] using hp
  refine ⟨⟨fun s hs => ?_, by decide⟩, ?_⟩
  · obtain rfl : s = ⟨97, 97⟩ := by simpa using hs
    decide
  · have h : makeL [⟨97, 97⟩] [] 2 = [⟨97, 97⟩] := by decide +kernel
    rw [h]
    intro s hs
    obtain rfl : s = ⟨97, 97⟩ := by simpa using hs
    unfold SpOk
    decide
theorem uni_ok (parts : List (List Sp)) (hl : parts.length ≤ 2) (h : ∀ a b : Int, 0 ≤ a → a < (parts.length : Int) → 0 ≤ b → b < (parts.length : Int) → ((uni parts [a]).length ≤ 10000 ∧ (makeL (uni parts [a]) [] 2).length ≠ 0) ∧ (uni parts [a, b]).length ≤ 10000 ∧ (makeL (uni parts [a, b]) [] 2).length ≠ 0) : UniOk parts := by
  intro g h1 h2 h3
  rcases g with _ | ⟨a, _ | ⟨b, _ | ⟨c, t⟩⟩⟩
  · simp at h1
  · have ha := h3 a (by simp)
    exact (h a a ha.1 ha.2 ha.1 ha.2).1
  · have ha := h3 a (by simp)
    have hb := h3 b (by simp)
    exact (h a b ha.1 ha.2 hb.1 hb.2).2
  · simp at h2; omega
theorem k_uni1 : UniOk (bareP kP) := by
  have e : bareP kP = kP := by decide +kernel
  rw [e]
  refine uni_ok kP (by decide) (fun a b ha ha1 hb hb1 => ?_)
  have h1 : kP.length = 1 := rfl
  rw [h1] at ha1 hb1
  obtain rfl : a = 0 := by omega
  obtain rfl : b = 0 := by omega
  decide +kernel
def kFs : List (List Sp) := [[⟨0, 0⟩], [⟨97, 97⟩]]
theorem k_uni2 : UniOk (bareP (asL (raw13 kD 5).next (raw13 kD 5).tags (classesL (raw13 kD 5).next).1).parts) := by
  have e : bareP (asL (raw13 kD 5).next (raw13 kD 5).tags (classesL (raw13 kD 5).next).1).parts = kFs := by decide +kernel
  rw [e]
  refine uni_ok kFs (by decide) (fun a b ha ha1 hb hb1 => ?_)
  have h1 : kFs.length = 2 := rfl
  rw [h1] at ha1 hb1
  rcases (show a = 0 ∨ a = 1 by omega) with rfl | rfl <;> rcases (show b = 0 ∨ b = 1 by omega) with rfl | rfl <;> decide +kernel
def kl0 : List Pl := [⟨0, []⟩]
def kl1 : List Pl := [⟨0, []⟩, ⟨1, []⟩]
def kK (l : List Pl) : Prop := l = kl0 ∨ l = kl1
def kRows : List (List (List Rg)) := [[[⟨97, 97⟩]]]
theorem k_rows : kD.parts.map of03 = kRows := by decide +kernel
theorem k_ways0 : waysAt kN0 kRows ⟨0, []⟩ = [⟨[⟨97, 97⟩], 1⟩] := by decide +kernel
theorem k_ways1 : waysAt kN0 kRows ⟨1, []⟩ = [] := by decide +kernel
theorem k_step0 (c : Int) : stepL c [⟨[⟨97, 97⟩], 1⟩] = if c = 97 then (⟨1, []⟩, true) else (⟨-1, []⟩, false) := by
  unfold stepL
  rw [stepGo]
  by_cases h : c = 97
  · subst h
    decide +kernel
  · rw [if_pos (by show c < 97 ∨ 97 < c; omega), if_neg h]
    rfl
theorem k_step1 (c : Int) : stepL c [] = (⟨-1, []⟩, false) := rfl
theorem k_mem {l : List Pl} (h : kK l) {p : Pl} (hp : p ∈ l) : p = ⟨0, []⟩ ∨ (p = ⟨1, []⟩ ∧ l = kl1) := by
  rcases h with rfl | rfl
  · exact .inl (by simpa [kl0] using hp)
  · rcases (by simpa [kl1] using hp : p = ⟨0, []⟩ ∨ p = ⟨1, []⟩) with h | h
    · exact .inl h
    · exact .inr ⟨h, rfl⟩
theorem k_raw : RawOk kN0 kRows 5 kK := by
  refine ⟨.inl rfl, ?_, ?_, ?_, ?_, ?_⟩
  · rintro l (rfl | rfl) <;> decide
  · intro l hl p hp
    rcases k_mem hl hp with rfl | ⟨rfl, _⟩ <;> decide
  · intro l hl p hp y hy
    rcases k_mem hl hp with rfl | ⟨rfl, _⟩
    · rw [k_ways0] at hy
      obtain rfl : y = ⟨[⟨97, 97⟩], 1⟩ := by simpa using hy
      decide
    · rw [k_ways1] at hy
      cases hy
  · intro l hl p hp
    rcases k_mem hl hp with rfl | ⟨rfl, _⟩
    · rw [k_ways0]; decide
    · rw [k_ways1]; decide
  · intro l hl p hp c h0 h1 hs hn
    rcases k_mem hl hp with rfl | ⟨rfl, _⟩
    · rw [k_ways0, k_step0] at hs hn ⊢
      by_cases h : c = 97
      · rw [if_pos h] at hn ⊢
        rcases hl with rfl | rfl
        · exact .inr rfl
        · exact absurd (by decide) hn
      · rw [if_neg h] at hs
        cases hs
    · rw [k_ways1, k_step1] at hs
      cases hs
theorem k_ok : Of13Ok kD 5 kK := by
  refine ⟨by rw [k_rows]; exact k_raw, ?_, ?_, k_uni2⟩
  · have e1 : (raw13 kD 5).next = kN := by decide +kernel
    have e2 : (raw13 kD 5).tags = kT := by decide +kernel
    rw [e1, e2]
    intro i hi
    have : i = 0 ∨ i = 1 := by have : kN.length = 2 := rfl; omega
    rcases this with rfl | rfl <;> refine ⟨by decide +kernel, ?_⟩ <;> decide +kernel
  · decide +kernel
theorem k_of13 : of13 5 kP kN0 kT = ((kN, kT), 0) := by decide +kernel
theorem k_of14 : of14 kN kT = ((kC, kTN, kT), 0) := by decide +kernel
theorem k_back : back14 kC kTN kT = ((kN, kT), 0) := by decide +kernel
theorem k_long : long14 kC kTN kT [97, 98] = (1, 0) := by decide +kernel
theorem k_steps : steps14 kC kTN kT [97, 98, 99] = 2 := by decide +kernel
theorem k_tsound : TSound kC kTN kT := by decide +kernel
theorem k_not : ¬ TSound [] [] [] := by decide +kernel
end Go.Proofs.YtfbfeimildkigaaDoor.P
namespace Go.Proofs.YtfbfeimildkigaaDoor.P
open Go Go.RowKit Go.Proofs.YtfbfeimildkigaaDoorW.PrintWords Go.Proofs.YtfbfeimildkigaaDoorW.PrintLast Go.Proofs.YtfbfeimildkigaaDoorW.PrintMore Go.Proofs.YtfbfeimildkigaaDoor.PX
set_option linter.unusedVariables false
set_option linter.unusedSimpArgs false
set_option maxRecDepth 100000
theorem kC_u8 : U8s kC := by unfold U8s; decide +kernel
theorem ab_u8 : U8s [97, 98] := by unfold U8s; decide
theorem abc_u8 : U8s [97, 98, 99] := by unfold U8s; decide
theorem nil_u8 : U8s [] := fun _ h => by cases h
theorem PV.lenlit {α : Type} {d : Kd α} {X : Nat → Prop} {w : World} {v : Value} {xs : List α} (h : PV d X w v xs) (n : Nat) (hn : xs.length = n) : ∃ A c, v = .slice A n c := by
  obtain ⟨A, c, e, _⟩ := h
  exact ⟨A, c, by rw [e, hn]⟩
section
variable (X : Nat → Prop) (w : World) (hX : ∀ k, X k → k < w.heap.size)
include hX
theorem k1_calls (vp vn vt : Value) (hp : PV kSps X w vp kP) (hn : PV kRow X w vn kN0) (ht : PV kInt X w vt kT) :
    Calls Tryd.prog 23 #[.agg #[vp, vn, vt]] w fun e w' => ∃ v0 v1, e = .returned (.tuple #[.agg #[v0, v1], .int .i64 0]) ∧ PV kRow X w' v0 kN ∧ PV kInt X w' v1 kT ∧ Below w.heap.size w w' := by
  have h := of13_calls X vp vn vt kP kN0 kT w hX hp hn ht (fun p hp => (k_part p hp).1) (fun _ => ⟨k_uni1, by rw [k_least]; exact k_part, by rw [k_least]; decide⟩) 5 (by decide) kK (fun _ _ => by rw [k_least]; exact k_ok)
  rw [k_of13] at h
  exact h
theorem k2_calls (vn vt : Value) (hn : PV kRow X w vn kN) (ht : PV kInt X w vt kT) :
    Calls Tryd.prog 9 #[.agg #[vn, vt]] w fun e w' => ∃ v0 v1 v2, e = .returned (.tuple #[.agg #[v0, v1, v2], .int .u16 0]) ∧ PV kU8 X w' v0 kC ∧ PV kRow X w' v1 kTN ∧ PV kInt X w' v2 kT ∧ Below w.heap.size w w' := by
  have h := cof_calls X vn vt kN kT w hX hn ht
  rw [k_of14] at h
  exact h
variable (vc vn vt : Value) (hc : PV kU8 X w vc kC) (hn : PV kRow X w vn kTN) (ht : PV kInt X w vt kT)
include hc hn ht
theorem k3_calls : Calls Tryd.prog 11 #[.agg #[vc, vn, vt]] w fun e w' => ∃ v0 v1, e = .returned (.tuple #[.agg #[v0, v1], .int .u16 0]) ∧ PV kRow X w' v0 kN ∧ PV kInt X w' v1 kT ∧ Below w.heap.size w w' := by
  have h := cback_calls X vc vn vt kC kTN kT w hX hc hn ht kC_u8
  rw [k_back] at h
  exact h
theorem k4_calls (vs : Value) (hs : PV kU8 X w vs [97, 98]) : Calls Tryd.prog 17 #[.agg #[vc, vn, vt], vs] w fun e w' => e = .returned (.tuple #[.int .i64 1, .int .i64 0]) ∧ Below w.heap.size w w' := by
  have h := clong_calls X vc vn vt vs kC kTN kT [97, 98] w hX hc hn ht hs kC_u8 ab_u8
  rw [k_long] at h
  exact h
theorem k5_calls (vs : Value) (hs : PV kU8 X w vs [97, 98, 99]) : Calls Tryd.prog 20 #[.agg #[vc, vn, vt], vs] w fun e w' => e = .returned (.int .i64 2) ∧ Below w.heap.size w w' := by
  have h := csteps_calls X vc vn vt vs kC kTN kT [97, 98, 99] w hX hc hn ht hs kC_u8 abc_u8
  rw [k_steps] at h
  exact h
theorem k6_calls : Calls Tryd.prog 15 #[.agg #[vc, vn, vt]] w fun e w' => e = .returned (.bool true) ∧ Below w.heap.size w w' := by
  have h := csound_calls X vc vn vt kC kTN kT w hX hc hn ht kC_u8
  rw [decide_eq_true k_tsound] at h
  exact h
end
theorem k7_calls (w : World) : Calls Tryd.prog 15 #[.agg #[.slice none 0 0, .slice none 0 0, .slice none 0 0]] w fun e w' => e = .returned (.bool false) ∧ Below w.heap.size w w' := by
  have h := csound_calls (fun _ => False) _ _ _ [] [] [] w (fun _ h => h.elim) (PV.nil _ _ _) (PV.nil _ _ _) (PV.nil _ _ _) nil_u8
  rw [decide_eq_false k_not] at h
  exact h
theorem k8_calls (X : Nat → Prop) (w : World) (hX : ∀ k, X k → k < w.heap.size) (va vs vb vt : Value) (hna : PV kRow X w va kN) (hta : PV kInt X w vs kT) (hnb : PV kRow X w vb kN) (htb : PV kInt X w vt kT) :
    Calls Tryd.prog 14 #[.agg #[va, vs], .agg #[vb, vt]] w fun e w' => e = .returned (.bool true) ∧ Below w.heap.size w w' := by
  have h := bsame13_calls X va vs vb vt kN kN kT kT w hX hna hta hnb htb
  rw [decide_eq_true ⟨rfl, rfl⟩] at h
  exact h
set_option maxHeartbeats 16000000 in
theorem known14_calls (w : World) : Calls Tryd.prog 12 #[] w fun e w' => e = .returned (.bool true) ∧ Below w.heap.size w w' := by
  have HS := Aside0.mk (Sep.start (X := fun _ => False) (w0 := w) (fun _ h => h.elim))
  go_enter Tryd.func12, Tryd.ntmps12
  go_wp2_with (first
    | ((with_reducible refine gate_dst (N := 11) rfl ?_); refine slit kSp 67 ?hg (N := 11) ?hd (xs := [(⟨97, 97⟩ : Sp)]) (inner := [.int .i64 97, .int .i64 97]) ?hr HS.out ?hp (by simp) ?_; (case hd => rfl); (case hg => rfl); (case hr => first | (go_simp; done) | (go_simp; rfl)); (case hp => exact sp_rep _ _ 97 97); clear HS; intro v30 w30 hs; simp only [List.nil_append, List.cons_append] at hs; obtain ⟨A0, c0, e0⟩ := hs.rform 0 rfl; subst e0; have HS := Aside0.mk hs; clear hs)
    | ((with_reducible refine gate_dst (N := 12) rfl ?_); refine slit kSps 68 ?hg (N := 12) ?hd (xs := [[(⟨97, 97⟩ : Sp)]]) (inner := [.slice A0 1 c0]) ?hr HS.out ?hp (by simp) ?_; (case hd => rfl); (case hg => rfl); (case hr => first | (go_simp; done) | (go_simp; rfl)); (case hp => exact Reps.one (PK.slice (HS.out.ro 0 rfl)) (Reps.none _ _)); clear HS; intro v30 w30 hs; simp only [List.nil_append, List.cons_append] at hs; obtain ⟨A1, c1, e1⟩ := hs.rform 1 rfl; subst e1; have HS := Aside0.mk hs; clear hs)
    | ((with_reducible refine gate_dst (N := 13) rfl ?_); refine slit kInt 3 ?hg (N := 13) ?hd (xs := [(1 : Int)]) (inner := [.int .i64 1]) ?hr HS.out ?hp (by simp) ?_; (case hd => rfl); (case hg => rfl); (case hr => first | (go_simp; done) | (go_simp; rfl)); (case hp => exact Reps.one (PK.scalar _) (Reps.none _ _)); clear HS; intro v30 w30 hs; simp only [List.nil_append, List.cons_append] at hs; obtain ⟨A2, c2, e2⟩ := hs.rform 2 rfl; subst e2; have HS := Aside0.mk hs; clear hs)
    | ((with_reducible refine gate_dst (N := 14) rfl ?_); refine slit kInt 3 ?hg (N := 14) ?hd (xs := [(-1 : Int)]) (inner := [.int .i64 (-1)]) ?hr HS.out ?hp (by simp) ?_; (case hd => rfl); (case hg => rfl); (case hr => first | (go_simp; done) | (go_simp; rfl)); (case hp => exact Reps.one (PK.scalar _) (Reps.none _ _)); clear HS; intro v30 w30 hs; simp only [List.nil_append, List.cons_append] at hs; obtain ⟨A3, c3, e3⟩ := hs.rform 3 rfl; subst e3; have HS := Aside0.mk hs; clear hs)
    | ((with_reducible refine gate_dst (N := 15) rfl ?_); refine slit kRow 25 ?hg (N := 15) ?hd (xs := [[(1 : Int)], [(-1 : Int)]]) (inner := [.slice A2 1 c2, .slice A3 1 c3]) ?hr HS.out ?hp (by simp) ?_; (case hd => rfl); (case hg => rfl); (case hr => first | (go_simp; done) | (go_simp; rfl)); (case hp => exact Reps.one (PK.slice (HS.out.ro 2 rfl)) (Reps.one (PK.slice (HS.out.ro 3 rfl)) (Reps.none _ _))); clear HS; intro v30 w30 hs; simp only [List.nil_append, List.cons_append] at hs; obtain ⟨A4, c4, e4⟩ := hs.rform 4 rfl; subst e4; have HS := Aside0.mk hs; clear hs)
    | ((with_reducible refine gate_dst (N := 16) rfl ?_); refine slit kInt 3 ?hg (N := 16) ?hd (xs := [(-1 : Int), 0]) (inner := [.int .i64 (-1), .int .i64 0]) ?hr HS.out ?hp (by simp) ?_; (case hd => rfl); (case hg => rfl); (case hr => first | (go_simp; done) | (go_simp; rfl)); (case hp => exact Reps.one (PK.scalar _) (Reps.one (PK.scalar _) (Reps.none _ _))); clear HS; intro v30 w30 hs; simp only [List.nil_append, List.cons_append] at hs; obtain ⟨A5, c5, e5⟩ := hs.rform 5 rfl; subst e5; have HS := Aside0.mk hs; clear hs)
    | (go_at_call 23; (refine (k1_calls _ _ HS.out.lt _ _ _ (HS.out.ro 1 rfl) (HS.out.ro 4 rfl) (HS.out.ro 5 rfl)).mono ?_); rintro ee w5 ⟨v0, v1, rfl, h0, h1, hb⟩; obtain ⟨A6, c6, e6⟩ := PV.lenlit h0 2 rfl; subst e6; obtain ⟨A7, c7, e7⟩ := PV.lenlit h1 2 rfl; subst e7; have hs := ((HS.out.push_ro hb h0).push_ro (Below.refl _ _) (h1.to (fun _ _ h => Ys_ro h))).push_box [.slice A6 2 c6, .slice A7 2 c7] 27; simp only [List.nil_append, List.cons_append] at hs; clear h0 h1 hb; have xb0 := (hs.box 8 rfl).cell 0 rfl; have xb1 := (hs.box 8 rfl).cell 1 rfl; clear HS; have HS := Aside0.mk hs; clear hs)
    | (go_at_call 9; (refine (k2_calls _ _ HS.out.lt _ _ (HS.out.ro 6 rfl) (HS.out.ro 7 rfl)).mono ?_); rintro ee w6 ⟨v0, v1, v2, rfl, h0, h1, h2, hb⟩; obtain ⟨A9, c9, e9⟩ := PV.lenlit h0 256 rfl; subst e9; obtain ⟨A10, c10, e10⟩ := PV.lenlit h1 2 rfl; subst e10; obtain ⟨A11, c11, e11⟩ := PV.lenlit h2 2 rfl; subst e11; have hs := (((HS.out.push_ro hb h0).push_ro (Below.refl _ _) (h1.to (fun _ _ h => Ys_ro h))).push_ro (Below.refl _ _) (h2.to (fun _ _ h => Ys_ro (Ys_ro h)))).push_box [.slice A9 256 c9, .slice A10 2 c10, .slice A11 2 c11] 31; simp only [List.nil_append, List.cons_append] at hs; clear h0 h1 h2 hb xb0 xb1; have xt0 := (hs.box 12 rfl).cell 0 rfl; have xt1 := (hs.box 12 rfl).cell 1 rfl; have xt2 := (hs.box 12 rfl).cell 2 rfl; clear HS; have HS := Aside0.mk hs; clear hs)
    | (go_at_call 11; (refine (k3_calls _ _ HS.out.lt _ _ _ (HS.out.ro 9 rfl) (HS.out.ro 10 rfl) (HS.out.ro 11 rfl)).mono ?_); rintro ee w7 ⟨v0, v1, rfl, h0, h1, hb⟩; obtain ⟨A13, c13, e13⟩ := PV.lenlit h0 2 rfl; subst e13; obtain ⟨A14, c14, e14⟩ := PV.lenlit h1 2 rfl; subst e14; have hs := ((HS.out.push_ro hb h0).push_ro (Below.refl _ _) (h1.to (fun _ _ h => Ys_ro h))).push_box [.slice A13 2 c13, .slice A14 2 c14] 27; simp only [List.nil_append, List.cons_append] at hs; clear h0 h1 hb xt0 xt1 xt2; have xt0 := (hs.box 12 rfl).cell 0 rfl; have xt1 := (hs.box 12 rfl).cell 1 rfl; have xt2 := (hs.box 12 rfl).cell 2 rfl; have kc2 := Lib.run_convert_bytes_const (P := Tryd.prog) (w7.alloc (.cells #[.slice A13 2 c13, .slice A14 2 c14] 27)) 29 5 #[.int .u8 97, .int .u8 98] 2 2 Tryd.underlying29 Tryd.underlying5; rw [show (w7.alloc (.cells #[.slice A13 2 c13, .slice A14 2 c14] 27)).heap.size = w7.heap.size + 1 by simp] at kc2; clear HS; have HS := Aside0.mk hs; clear hs))
  have hs := HS.out.push_bytes' (w7.heap.size + 1) (by simp) .u8 [97, 98] 5 (2, 3) (by decide)
  simp only [List.nil_append, List.cons_append] at hs
  clear HS xt0 xt1 xt2 kc2
  have HS := Aside0.mk hs
  clear hs
  refine (k4_calls _ _ HS.out.lt _ _ _ (HS.out.ro 9 rfl) (HS.out.ro 10 rfl) (HS.out.ro 11 rfl) _ (HS.out.ro 16 rfl)).mono ?_
  rintro ee w8 ⟨rfl, hb⟩
  have hs := HS.out.call hb
  clear HS hb
  have HS := Aside0.mk hs
  clear hs
  have xt0 := (HS.out.box 12 rfl).cell 0 rfl
  have xt1 := (HS.out.box 12 rfl).cell 1 rfl
  have xt2 := (HS.out.box 12 rfl).cell 2 rfl
  go_wp2_with (first
    | (go_at_call 15; (with_reducible refine (k7_calls _).mono ?_); rintro ee w12 ⟨rfl, hb⟩; have hs := HS.out.call hb; clear hb; clear HS; have HS := Aside0.mk hs; clear hs)
    | (go_at_call 15; (refine (k6_calls _ _ HS.out.lt _ _ _ (HS.out.ro 9 rfl) (HS.out.ro 10 rfl) (HS.out.ro 11 rfl)).mono ?_); rintro ee w9 ⟨rfl, hb⟩; have hs := HS.out.call hb; clear hb xt0 xt1 xt2; have xt0 := (hs.box 12 rfl).cell 0 rfl; have xt1 := (hs.box 12 rfl).cell 1 rfl; have xt2 := (hs.box 12 rfl).cell 2 rfl; have xb0 := (hs.box 8 rfl).cell 0 rfl; have xb1 := (hs.box 8 rfl).cell 1 rfl; have xx0 := (hs.box 15 rfl).cell 0 rfl; have xx1 := (hs.box 15 rfl).cell 1 rfl; obtain ⟨ad, cd, ed, yc⟩ := u8_cell (hs.ro 9 rfl) 97 (by decide +kernel); obtain ⟨ed1, ed2, ed3⟩ := Value.slice.inj ed; clear ed ed2; subst ed1; subst ed3; rw [show kC.getD 97 0 = 1 by decide +kernel, add_pos _ (by decide)] at yc; obtain ⟨an, cn', u, en, hu, yn⟩ := (hs.ro 10 rfl).row 0 (by decide); obtain ⟨en1, en2, en3⟩ := Value.slice.inj en; clear en en2; subst en1; subst en3; obtain ⟨Au, cu, eu⟩ := PV.lenlit hu 2 (by decide +kernel); subst eu; obtain ⟨ar, cr, er, yr⟩ := int_cell hu 1 (by decide +kernel); obtain ⟨er1, er2, er3⟩ := Value.slice.inj er; clear er er2 hu; subst er1; subst er3; rw [show (kTN.getD 0 []).getD 1 0 = 1 by decide +kernel, add_pos _ (by decide)] at yr; change World.cell? _ an = _ at yn; clear HS; have HS := Aside0.mk hs; clear hs)
    | (go_at_call 14; (refine (k8_calls _ _ HS.out.lt _ _ _ _ (HS.out.ro 13 rfl) (HS.out.ro 14 rfl) (HS.out.ro 6 rfl) (HS.out.ro 7 rfl)).mono ?_); rintro ee w10 ⟨rfl, hb⟩; have hs := HS.out.call hb; clear hb xt0 xt1 xt2 xb0 xb1 xx0 xx1 yc yn yr; have xt0 := (hs.box 12 rfl).cell 0 rfl; have xt1 := (hs.box 12 rfl).cell 1 rfl; have xt2 := (hs.box 12 rfl).cell 2 rfl; have kc3 := Lib.run_convert_bytes_const (P := Tryd.prog) w10 29 5 #[.int .u8 97, .int .u8 98, .int .u8 99] 3 3 Tryd.underlying29 Tryd.underlying5; clear HS; have HS := Aside0.mk hs; clear hs)
    | (go_at_call 20; (have hs := HS.out.push_bytes .u8 [97, 98, 99] 5 (3, 4) (by decide); simp only [List.nil_append, List.cons_append] at hs; clear HS xt0 xt1 xt2 kc3; have HS := Aside0.mk hs; clear hs; (refine (k5_calls _ _ HS.out.lt _ _ _ (HS.out.ro 9 rfl) (HS.out.ro 10 rfl) (HS.out.ro 11 rfl) _ (HS.out.ro 17 rfl)).mono ?_); rintro ee w11 ⟨rfl, hb⟩; have hs := HS.out.call hb; clear HS hb; have HS := Aside0.mk hs; clear hs)))
  go_ret
  exact ⟨rfl, HS.out.below⟩
end Go.Proofs.YtfbfeimildkigaaDoor.P
namespace Go.Proofs.YtfbfeimildkigaaDoor.P
open Go Go.RowKit Go.Proofs.YtfbfeimildkigaaDoorW.PrintWords Go.Proofs.YtfbfeimildkigaaDoorW.PrintLast Go.Proofs.YtfbfeimildkigaaDoorW.PrintMore Go.Proofs.YtfbfeimildkigaaDoor.PX
set_option linter.unusedVariables false
set_option linter.unusedSimpArgs false
set_option maxRecDepth 100000
theorem PV.form2 {α : Type} {d : Kd α} {X : Nat → Prop} {w : World} {v : Value} {xs : List α} (h : PV d X w v xs) : ∃ A c, v = .slice A xs.length c := by
  obtain ⟨A, c, e, _⟩ := h
  exact ⟨A, c, e⟩
theorem of13_K (parts : List (List Sp)) (next : List (List Int)) (tags : List Int) (h15 : parts.length ≤ 15) (h9 : tags.length ≤ 9) (hp : SoundP parts next tags → ∀ p ∈ (leastL parts next tags).parts, PartP p) :
    ∃ K, SoundP parts next tags → ¬ longD (leastL parts next tags) → Of13Ok (leastL parts next tags) 40000 K := by
  by_cases h : SoundP parts next tags ∧ ¬ longD (leastL parts next tags)
  · obtain ⟨⟨K, hK⟩, _⟩ := of13_good parts next tags h.1 h.2 h15 h9 (hp h.1)
    exact ⟨K, fun _ _ => hK⟩
  · exact ⟨fun _ => True, fun a b => absurd ⟨a, b⟩ h⟩
theorem of13_sound (parts : List (List Sp)) (next : List (List Int)) (tags : List Int) (h15 : parts.length ≤ 15) (h9 : tags.length ≤ 9) (hp : SoundP parts next tags → ∀ p ∈ (leastL parts next tags).parts, PartP p) (h : (of13 40000 parts next tags).2 = 0) : BSound (of13 40000 parts next tags).1.1 (of13 40000 parts next tags).1.2 := by
  unfold of13 at h ⊢
  by_cases h1 : SoundP parts next tags
  · rw [if_pos h1] at h ⊢
    by_cases h2 : longD (leastL parts next tags)
    · rw [if_pos h2] at h; cases h
    · rw [if_neg h2]
      exact (of13_good parts next tags h1 h2 h15 h9 (hp h1)).2
  · rw [if_neg h1] at h; cases h
theorem of13_err (B : Nat) (parts : List (List Sp)) (next : List (List Int)) (tags : List Int) : (of13 B parts next tags).2 = 0 ∨ (of13 B parts next tags).2 = 1 ∨ (of13 B parts next tags).2 = 63 := by
  unfold of13
  split
  · split
    · exact .inr (.inr rfl)
    · exact .inl rfl
  · exact .inr (.inl rfl)
theorem dfa_tags (c : List (List Int)) (k : Int) (next tags : List Int) (hk : 0 ≤ k ∧ k < 256) : (dfa11 c k next tags).tags.length ≤ 9 := by
  show ((List.range (1 + k % 9).toNat).map (tag11 tags)).length ≤ 9
  rw [List.length_map, List.length_range]
  omega
theorem none_sound : SoundP [] [[]] [-1] := by decide +kernel
theorem none_parts : ∀ p ∈ (leastL [] [[]] [-1]).parts, PartP p := by
  have h := (least_parts [] [[]] [-1]).2
  have h2 : (bareP ([] : List (List Sp))).length = 0 := rfl
  intro p hp
  have h3 := List.length_pos_of_mem hp
  omega
theorem none_uni : UniOk (bareP ([] : List (List Sp))) := by
  intro g h1 h2 h3
  have h4 : (bareP ([] : List (List Sp))).length = 0 := rfl
  omega
theorem none_long : ¬ longD (leastL [] [[]] [-1]) := by
  have hok := sound_ok12 none_sound
  have hlr := least_rows [] [[]] [-1]
  have hle := least_le [] [[]] [-1] hok rfl (by decide)
  have h := (least_parts [] [[]] [-1]).2
  have h2 : (bareP ([] : List (List Sp))).length = 0 := rfl
  generalize leastL [] [[]] [-1] = d at *
  unfold longD
  have h3 : d.parts.length = 0 := by omega
  rw [List.length_eq_zero_iff.1 h3]
  have h4 : d.next.length ≤ 1 := hle.1
  show ¬ (100 < d.tags.length ∨ 100 < 0)
  omega
def b14 (c : List (List Int)) (k : Int) (next tags : List Int) : List (List Int) × List Int :=
  if (of13 40000 (dfa11 c k next tags).parts (dfa11 c k next tags).next (dfa11 c k next tags).tags).2 = 0 then (of13 40000 (dfa11 c k next tags).parts (dfa11 c k next tags).next (dfa11 c k next tags).tags).1 else (of13 40000 [] [[]] [-1]).1
theorem none_of : (of13 40000 [] [[]] [-1]).2 = 0 := by
  unfold of13
  rw [if_pos none_sound, if_neg none_long]
theorem b14_sound (c : List (List Int)) (k : Int) (next tags : List Int) (hk : 0 ≤ k ∧ k < 256) : BSound (b14 c k next tags).1 (b14 c k next tags).2 := by
  have h9 := dfa_tags c k next tags hk
  have h15 := (dfa_parts c k next tags).2
  have hp := fun hs => (dfa_uni c k next tags hs).2.1
  unfold b14
  generalize dfa11 c k next tags = d at *
  split
  · next h => exact of13_sound d.parts d.next d.tags h15 h9 hp h
  · exact of13_sound [] [[]] [-1] (by decide) (by decide) (fun _ => none_parts) none_of
set_option maxHeartbeats 16000000 in
theorem bytes14_calls (X : Nat → Prop) (v0 v2 v3 : Value) (c : List (List Int)) (k : Int) (next tags : List Int) (w : World) (hX : ∀ k, X k → k < w.heap.size) (h0 : PV kU16s X w v0 c) (h2 : PV (Kd.int .i8) X w v2 next) (h3 : PV (Kd.int .i8) X w v3 tags)
    (hc : ∀ l ∈ c, ∀ x ∈ l, 0 ≤ x ∧ x < 65536) (hk : 0 ≤ k ∧ k < 256) (hn : ∀ x ∈ next, -128 ≤ x ∧ x ≤ 127) (ht : ∀ x ∈ tags, -128 ≤ x ∧ x ≤ 127) :
    Calls Tryd.prog 8 #[v0, .int .u8 k, v2, v3] w fun e w' => ∃ vn vt, e = .returned (.agg #[vn, vt]) ∧ PV kRow X w' vn (b14 c k next tags).1 ∧ PV kInt X w' vt (b14 c k next tags).2 ∧ Below w.heap.size w w' := by
  have H0 := Aside0.mk h0
  have H2 := Aside0.mk h2
  have H3 := Aside0.mk h3
  have HC := Aside0.mk hc
  have HK := Aside0.mk hk
  have HRN := Aside0.mk hn
  have HRT := Aside0.mk ht
  have HP := Aside0.mk (dfa_parts c k next tags)
  have HU := Aside0.mk (fun hs => dfa_uni c k next tags hs)
  obtain ⟨K, hK⟩ := of13_K (dfa11 c k next tags).parts (dfa11 c k next tags).next (dfa11 c k next tags).tags (dfa_parts c k next tags).2 (dfa_tags c k next tags hk) (fun hs => (dfa_uni c k next tags hs).2.1)
  have HOK := Aside0.mk hK
  obtain ⟨K2, hK2⟩ := of13_K [] [[]] [-1] (by decide) (by decide) (fun _ => none_parts)
  have HOK2 := Aside0.mk hK2
  have HS := Aside0.mk ((Sep.start hX).push_box [.slice none 0 0, .slice none 0 0] 27)
  obtain ⟨g0, hg0⟩ : ∃ g, g = w.heap.size := ⟨_, rfl⟩
  obtain ⟨res, hres⟩ : ∃ r, r = b14 c k next tags := ⟨_, rfl⟩
  rw [← hres]
  obtain ⟨⟨⟨rn, rt⟩, re⟩, hr⟩ : ∃ r, r = of13 40000 (dfa11 c k next tags).parts (dfa11 c k next tags).next (dfa11 c k next tags).tags := ⟨_, rfl⟩
  have HR := Aside0.mk hr.symm
  have HRE := Aside0.mk (show re = 0 ∨ re = 1 ∨ re = 63 by have := of13_err 40000 (dfa11 c k next tags).parts (dfa11 c k next tags).next (dfa11 c k next tags).tags; rw [← hr] at this; exact this)
  have HRES := Aside0.mk (show res = if re = 0 then (rn, rt) else (of13 40000 [] [[]] [-1]).1 by rw [hres, b14, ← hr])
  obtain ⟨⟨⟨sn, st⟩, se⟩, hs2⟩ : ∃ r, r = of13 40000 [] [[]] [-1] := ⟨_, rfl⟩
  have HR2 := Aside0.mk hs2.symm
  rw [← hs2] at HRES
  clear h0 h2 h3 hc hn ht hX hK hK2 hr hres hs2
  go_enter Tryd.func8, Tryd.ntmps8
  go_upto_if 21 with (first
    | (go_at_call 24; (with_reducible refine (dfa11_calls _ _ _ _ c k next tags _ HS.out.lt (HS.out.arg H0.out) (HS.out.arg H2.out) (HS.out.arg H3.out) HC.out HK.out HRN.out HRT.out).mono ?_); rintro ee w5 ⟨vp, vn, vt, rfl, h0, h1, h2, hb⟩; have hs := ((HS.out.push_ro hb h0).push_ro (Below.refl _ _) (h1.to (fun _ _ h => Ys_ro h))).push_ro (Below.refl _ _) (h2.to (fun _ _ h => Ys_ro (Ys_ro h))); simp only [List.nil_append, List.cons_append] at hs; clear h0 h1 h2 hb; clear HS; have HS := Aside0.mk hs; clear hs)
    | (go_at_call 23; (with_reducible refine (of13_calls _ _ _ _ _ _ _ _ HS.out.lt (HS.out.ro 1 rfl) (HS.out.ro 2 rfl) (HS.out.ro 3 rfl) (fun p hp => ⟨(HP.out.1.sm hp).1, by have := (HP.out.1.sm hp).2; omega⟩) (fun hs => ⟨(HU.out hs).1, (HU.out hs).2.1, by have := (HU.out hs).2.2; omega⟩) 40000 (by decide) K HOK.out).mono ?_); rintro ee w6 ⟨v0, v1, rfl, h0, h1, hb⟩; rw [HR.out] at h0 h1 ⊢; obtain ⟨A6, c6, e6⟩ := PV.form2 h0; subst e6; obtain ⟨A7, c7, e7⟩ := PV.form2 h1; subst e7; have hgw := Nat.lt_of_lt_of_le (HS.out.box 0 rfl).lt hb.size; have hs := ((HS.out.push_ro hb h0).push_ro (Below.refl _ _) (h1.to (fun _ _ h => Ys_ro h))).push_box [.slice A6 rn.length c6, .slice A7 rt.length c7] 27; simp only [List.nil_append, List.cons_append] at hs; clear h0 h1 hb; clear HS; have HS := Aside0.mk hs; clear hs))
  obtain ⟨g1, hg1⟩ : ∃ g, g = w6.heap.size := ⟨_, rfl⟩
  rw [← hg0, ← hg1] at HS ⊢
  have hgg : g0 ≠ g1 := by omega
  have hgg' : g1 ≠ g0 := by omega
  clear hg0 hg1 hgw
  have x0 := ((HS.out.box 6 rfl).cell 0 rfl)
  have x1 := ((HS.out.box 6 rfl).cell 1 rfl)
  have z0 := ((HS.out.box 0 rfl).cell 0 rfl)
  have z1 := ((HS.out.box 0 rfl).cell 1 rfl)
  have f0 := (HS.out.box 0 rfl).open_ 0
  have f1 := (HS.out.box 0 rfl).open_ 1
  rcases HRE.out with rfl | hne
  case inl =>
    have HE := Aside0.mk (show res = (rn, rt) by rw [HRES.out, if_pos rfl])
    clear HRES HRE
    go_wp2_with fail
    have HSF := Aside0.mk ((HS.out.set_box 0 rfl 0 (.slice A6 rn.length c6)).set_box 0 rfl 1 (.slice A7 rt.length c7))
    refine bodyPost_ret (results_cell_row rfl _ _ g0 27 #[.slice A6 rn.length c6, .slice A7 rt.length c7] (0, 0) _ rfl (HSF.out.box 0 rfl) Tryd.underlying27 rfl (by kernel_rfl)) rfl ?_
    rw [HE.out]
    exact ⟨_, _, rfl, HSF.out.res 4 rfl, HSF.out.res 5 rfl, HSF.out.below⟩
  case inr =>
    have HE := Aside0.mk (show res = (sn, st) by rw [HRES.out, if_neg (by omega)])
    have h0 : (re != 0) = true := by simp; omega
    clear HRES HRE hne x0 x1 z0 z1 f0 f1
    rw [h0]
    clear h0
    go_wp2_with (first
      | ((with_reducible refine gate_dst (N := 23) rfl ?_); refine slit kRow 25 ?hg (N := 23) ?hd (xs := [([] : List Int)]) (inner := [.slice none 0 0]) ?hr HS.out ?hp (by simp) ?_; (case hd => rfl); (case hg => rfl); (case hr => first | (go_simp; done) | (go_simp; rfl)); (case hp => exact Reps.one (PK.slice (PV.nil _ _ _)) (Reps.none _ _)); clear HS; intro v30 w30 hs; simp only [List.nil_append, List.cons_append] at hs; obtain ⟨B0, d0, e0⟩ := hs.rform 7 rfl; subst e0; have HS := Aside0.mk hs; clear hs)
      | ((with_reducible refine gate_dst (N := 24) rfl ?_); refine slit kInt 3 ?hg (N := 24) ?hd (xs := [(-1 : Int)]) (inner := [.int .i64 (-1)]) ?hr HS.out ?hp (by simp) ?_; (case hd => rfl); (case hg => rfl); (case hr => first | (go_simp; done) | (go_simp; rfl)); (case hp => exact Reps.one (PK.scalar _) (Reps.none _ _)); clear HS; intro v31 w31 hs; simp only [List.nil_append, List.cons_append] at hs; obtain ⟨B1, d1, e1⟩ := hs.rform 8 rfl; subst e1; have HS := Aside0.mk hs; clear hs)
      | (go_at_call 23; (refine (of13_calls _ _ _ _ [] [[]] [-1] _ HS.out.lt (PV.nil _ _ _) (HS.out.ro 7 rfl) (HS.out.ro 8 rfl) (fun p hp => by cases hp) (fun hs => ⟨none_uni, none_parts, by have h1 := (least_parts [] [[]] [-1]).2; have h2 : (bareP ([] : List (List Sp))).length = 0 := rfl; omega⟩) 40000 (by decide) K2 HOK2.out).mono ?_); rintro ee w7 ⟨v0, v1, rfl, h0, h1, hb⟩; rw [HR2.out] at h0 h1 ⊢; obtain ⟨A8, c8, e8⟩ := PV.form2 h0; subst e8; obtain ⟨A9, c9, e9⟩ := PV.form2 h1; subst e9; have hs := ((HS.out.push_ro hb h0).push_ro (Below.refl _ _) (h1.to (fun _ _ h => Ys_ro h))); simp only [List.nil_append, List.cons_append] at hs; clear h0 h1 hb; have y0 := (hs.box 6 rfl).open_ 0; have y1 := (hs.box 6 rfl).open_ 1; have x0 := (hs.box 6 rfl).cell 0 rfl; have x1 := (hs.box 6 rfl).cell 1 rfl; have z0 := (hs.box 0 rfl).cell 0 rfl; have z1 := (hs.box 0 rfl).cell 1 rfl; have f0 := (hs.box 0 rfl).open_ 0; have f1 := (hs.box 0 rfl).open_ 1; clear HS; have HS := Aside0.mk hs; clear hs))
    have HSF := Aside0.mk ((((HS.out.set_box 6 rfl 0 (.slice A8 sn.length c8)).set_box 6 rfl 1 (.slice A9 st.length c9)).set_box 0 rfl 0 (.slice A8 sn.length c8)).set_box 0 rfl 1 (.slice A9 st.length c9))
    refine bodyPost_ret (results_cell_row rfl _ _ g0 27 #[.slice A8 sn.length c8, .slice A9 st.length c9] (0, 0) _ rfl (HSF.out.box 0 rfl) Tryd.underlying27 rfl (by kernel_rfl)) rfl ?_
    rw [HE.out]
    exact ⟨_, _, rfl, HSF.out.res 9 rfl, HSF.out.res 10 rfl, HSF.out.below⟩
end Go.Proofs.YtfbfeimildkigaaDoor.P
namespace Go.Proofs.YtfbfeimildkigaaDoor.P
open Go Go.RowKit Go.Proofs.YtfbfeimildkigaaDoorW.PrintWords Go.Proofs.YtfbfeimildkigaaDoorW.PrintLast Go.Proofs.YtfbfeimildkigaaDoorW.PrintMore Go.Proofs.YtfbfeimildkigaaDoor.PX
set_option linter.unusedVariables false
set_option linter.unusedSimpArgs false
set_option maxRecDepth 100000
theorem PV.form {α : Type} {d : Kd α} {X : Nat → Prop} {w : World} {v : Value} {xs : List α} (h : PV d X w v xs) : ∃ A c, v = .slice A xs.length c := by
  obtain ⟨A, c, e, _⟩ := h
  exact ⟨A, c, e⟩
end Go.Proofs.YtfbfeimildkigaaDoor.P
namespace Go.Proofs.YtfbfeimildkigaaDoor.P
open Go Go.RowKit Go.Proofs.YtfbfeimildkigaaDoorW.PrintWords Go.Proofs.YtfbfeimildkigaaDoorW.PrintLast Go.Proofs.YtfbfeimildkigaaDoorW.PrintMore Go.Proofs.YtfbfeimildkigaaDoor.PX
set_option linter.unusedVariables false
set_option linter.unusedSimpArgs false
set_option maxRecDepth 100000
set_option maxHeartbeats 16000000 in
theorem classFew_calls (X : Nat → Prop) (v0 v2 v3 : Value) (c : List (List Int)) (k : Int) (next tags : List Int) (a b : Nat) (w : World) (hX : ∀ k, X k → k < w.heap.size) (h0 : PV kU16s X w v0 c) (h2 : PV (Kd.int .i8) X w v2 next) (h3 : PV (Kd.int .i8) X w v3 tags) (hx : a < 256) (hy : b < 256)
    (hc : ∀ l ∈ c, ∀ x ∈ l, 0 ≤ x ∧ x < 65536) (hk : 0 ≤ k ∧ k < 256) (hn : ∀ x ∈ next, -128 ≤ x ∧ x ≤ 127) (ht : ∀ x ∈ tags, -128 ≤ x ∧ x ≤ 127) :
    Calls Tryd.prog 7 #[v0, .int .u8 k, v2, v3, .int .u8 a, .int .u8 b] w fun e w' => e = .returned (.bool true) ∧ Below w.heap.size w w' := by
  have H0 := Aside0.mk h0
  have H2 := Aside0.mk h2
  have H3 := Aside0.mk h3
  have HC := Aside0.mk hc
  have HK := Aside0.mk hk
  have HRN := Aside0.mk hn
  have HRT := Aside0.mk ht
  have HB := b14_sound c k next tags hk
  obtain ⟨⟨N, T⟩, hb14⟩ : ∃ p, p = b14 c k next tags := ⟨_, rfl⟩
  have HBE := Aside0.mk hb14.symm
  rw [← hb14] at HB
  have HG := of14_good HB
  have hci := class_iff N a b hx hy
  have hcl := (classes_in N).len
  obtain ⟨rc, hrc⟩ : ∃ l, l = (classesL N).2 := ⟨_, rfl⟩
  obtain ⟨rn, hrn⟩ : ∃ l, l = N.map (shortRow (classesL N).1) := ⟨_, rfl⟩
  rw [← hrc, ← hrn] at HG
  rw [← hrc] at hci hcl
  have HR := Aside0.mk HG.1
  have HCI := Aside0.mk ((sameCol_iff N a b).symm.trans hci)
  have HCL := Aside0.mk hcl
  have HNL := Aside0.mk (show N.length ≤ 40000 by have h1 := HB.1.2.2; have h2 := HB.1.2.1; dsimp only at h1 h2; omega)
  have HRL := Aside0.mk (show ∀ i, i < N.length → (N.getD i []).length = 256 from fun i hi => (HB.2 i (by have h1 := HB.1.2.2; dsimp only at h1 ⊢; omega)).1)
  have HXY := Aside0.mk (And.intro hx hy)
  have HS := Aside0.mk (Sep.start hX)
  clear h0 h2 h3 hc hn ht hX hb14 HB HG hrc hrn hk hci hcl
  go_enter Tryd.func7, Tryd.ntmps7
  go_wp2_with (first
      | (go_at_call 8; (with_reducible refine (bytes14_calls _ _ _ _ c k next tags _ HS.out.lt (HS.out.arg H0.out) (HS.out.arg H2.out) (HS.out.arg H3.out) HC.out HK.out HRN.out HRT.out).mono ?_); rintro ee w5 ⟨v0, v1, rfl, h0, h1, hb⟩; rw [HBE.out] at h0 h1; obtain ⟨A4, c4, e4⟩ := PV.form h0; subst e4; obtain ⟨A5, c5, e5⟩ := PV.form h1; subst e5; have hs := ((HS.out.push_ro hb h0).push_ro (Below.refl _ _) (h1.to (fun _ _ h => Ys_ro h))).push_box [.slice A4 N.length c4, .slice A5 T.length c5] 27; simp only [List.nil_append, List.cons_append] at hs; clear h0 h1 hb; have xb0 := (hs.box 2 rfl).cell 0 rfl; have xb1 := (hs.box 2 rfl).cell 1 rfl; clear HS; have HS := Aside0.mk hs; clear hs)
      | (go_at_call 9; (with_reducible refine (cof_calls _ _ _ N T _ HS.out.lt (HS.out.ro 0 rfl) (HS.out.ro 1 rfl)).mono ?_); rintro ee w6 ⟨v0, v1, v2, rfl, h0, h1, h2, hb⟩; rw [HR.out] at h0 h1 h2 ⊢; obtain ⟨A6, c6, e6⟩ := PV.lenlit h0 256 HCL.out; subst e6; obtain ⟨A7, c7, e7⟩ := PV.form h1; subst e7; obtain ⟨A8, c8, e8⟩ := PV.form h2; subst e8; have hs := (((HS.out.push_ro hb h0).push_ro (Below.refl _ _) (h1.to (fun _ _ h => Ys_ro h))).push_ro (Below.refl _ _) (h2.to (fun _ _ h => Ys_ro (Ys_ro h)))).push_box [.slice A6 256 c6, .slice A7 rn.length c7, .slice A8 T.length c8] 31; simp only [List.nil_append, List.cons_append] at hs; clear h0 h1 h2 hb; clear xb0 xb1; have xt0 := (hs.box 6 rfl).cell 0 rfl; clear HS; have HS := Aside0.mk hs; clear hs)
      | (go_at_call 12; (with_reducible refine (known14_calls _).mono ?_); rintro ee w7 ⟨rfl, hb⟩; have hs := HS.out.call hb; clear hb xt0; clear HS; have HS := Aside0.mk hs; clear hs))
  obtain ⟨g1, hg1⟩ : ∃ g, g = w5.heap.size := ⟨_, rfl⟩
  obtain ⟨g2, hg2⟩ : ∃ g, g = w6.heap.size := ⟨_, rfl⟩
  rw [← hg1, ← hg2] at HS ⊢
  clear hg1 hg2
  have hnl : N.length ≤ 40000 := HNL.out
  go_loopg [16, 17] N.length (fun m v16 v17 w' => ∃ (i : Nat) (al : Bool), (v17 = .int .i64 i ∧ v16 = .bool al) ∧ Aside0 (i + m = N.length) ∧ Aside0 (al = true ↔ ∀ i', i' < i → (N.getD i' []).getD a 0 = (N.getD i' []).getD b 0) ∧ Aside0 (Sep X w w' [.ro kRow (.slice A4 N.length c4) N, .ro kInt (.slice A5 T.length c5) T, .box g1 27 [.slice A4 N.length c4, .slice A5 T.length c5], .ro kU8 (.slice A6 256 c6) rc, .ro kRow (.slice A7 rn.length c7) rn, .ro kInt (.slice A8 T.length c8) T, .box g2 31 [.slice A6 256 c6, .slice A7 rn.length c7, .slice A8 T.length c8]]))
  case atStart => exact ⟨0, true, ⟨rfl, rfl⟩, ⟨by omega⟩, ⟨fun _ i' h => by omega, fun _ => rfl⟩, HS⟩
  case round =>
    clear HS
    obtain ⟨i, al, ⟨rfl, rfl⟩, HJ, HI, HS⟩ := hrel
    have xb0 := (HS.out.box 2 rfl).cell 0 rfl
    cases gk with
    | zero =>
      have e1 : decide ((i : Int) < (N.length : Int)) = false := decide_eq_false (by have := HJ.out; omega)
      have e2 : decide (i < N.length) = false := decide_eq_false (by have := HJ.out; omega)
      have hin : i = N.length := by have := HJ.out; omega
      have HAL := Aside0.mk (show al = true ↔ rc.getD a 0 = rc.getD b 0 by rw [HI.out, hin]; exact HCI.out)
      have xt0 := (HS.out.box 6 rfl).cell 0 rfl
      obtain ⟨ad, cd, ed, ya⟩ := u8_cell (HS.out.ro 3 rfl) a (by rw [HCL.out]; exact hx)
      rw [HCL.out] at ed
      cases ed
      obtain ⟨ad2, cd2, ed2, yb⟩ := u8_cell (HS.out.ro 3 rfl) b (by rw [HCL.out]; exact hy)
      rw [HCL.out] at ed2
      cases ed2
      have ha0 : (0 : Int) ≤ (a : Int) := by omega
      have hb0 : (0 : Int) ≤ (b : Int) := by omega
      have ha1 : (a : Int) < 256 := by omega
      have hb1 : (b : Int) < 256 := by omega
      clear HI HCI hin HJ
      generalize rc.getD a 0 = p at *
      generalize rc.getD b 0 = q at *
      by_cases c : p = q
      case' pos =>
        obtain rfl := HAL.out.2 c
        subst c
        have d1 : (p == p) = true := beq_self_eq_true p
      case' neg =>
        obtain rfl : al = false := (Bool.eq_false_or_eq_true al).elim (fun h => absurd (HAL.out.1 h) c) id
        have d1 : (p == q) = false := beq_eq_false_iff_ne.mpr c
        clear c
      all_goals
        clear HAL
        go_wp2_with fail
        go_quiet (fail)
        have HS2 := Aside0.mk (HS.out.drewN nq)
        go_wp2_with fail
        go_ret
        exact ⟨rfl, HS2.out.below⟩
    | succ k1 =>
      have hi : i < N.length := by have := HJ.out; omega
      have e1 : decide ((i : Int) < (N.length : Int)) = true := decide_eq_true (by omega)
      have e2 : decide (i < N.length) = true := decide_eq_true hi
      have hi0 : (0 : Int) ≤ (i : Int) := by omega
      have hi1 : (i : Int) < (N.length : Int) := by omega
      have ha0 : (0 : Int) ≤ (a : Int) := by omega
      have hb0 : (0 : Int) ≤ (b : Int) := by omega
      obtain ⟨an, cn', u, en, hun, yn⟩ := (HS.out.ro 0 rfl).row i hi
      cases en
      have hrl := HRL.out i hi
      have HST := Aside0.mk (show (∀ i', i' < i + 1 → (N.getD i' []).getD a 0 = (N.getD i' []).getD b 0) ↔ al = true ∧ (N.getD i []).getD a 0 = (N.getD i []).getD b 0 from
        ⟨fun h => ⟨HI.out.2 (fun i' h1 => h i' (by omega)), h i (by omega)⟩, fun h i' h1 => (Nat.lt_or_ge i' i).elim (HI.out.1 h.1 i') (fun h2 => by
          have : i' = i := by omega
          rw [this]; exact h.2)⟩)
      obtain ⟨row, hrow⟩ : ∃ r, r = N.getD i [] := ⟨_, rfl⟩
      rw [← hrow] at hun hrl HST
      clear hrow
      have ha1 : (a : Int) < (row.length : Int) := by omega
      have hb1 : (b : Int) < (row.length : Int) := by omega
      obtain ⟨Au, cu, rfl, _, _⟩ := hun.now
      obtain ⟨ar, cr, er, yr⟩ := int_cell hun a (by omega)
      cases er
      obtain ⟨ar2, cr2, er2, ys⟩ := int_cell hun b (by omega)
      cases er2
      clear hun hrl HI
      generalize row.getD a 0 = x at *
      generalize row.getD b 0 = y at *
      cases al
      case' false =>
        have HN := Aside0.mk (show (false = true ↔ ∀ i', i' < i + 1 → (N.getD i' []).getD a 0 = (N.getD i' []).getD b 0) by rw [HST.out]; simp)
      case' true =>
        have HN := Aside0.mk (show ((x == y) = true ↔ ∀ i', i' < i + 1 → (N.getD i' []).getD a 0 = (N.getD i' []).getD b 0) by rw [HST.out]; simp)
      all_goals
        clear HST
        go_wp2_with fail
        go_quiet (fail)
        have HS2 := Aside0.mk (HS.out.drewN nq)
        clear HS
        go_wp2_with fail
        go_roundg k1
        case measure => omega
        case rel => exact ⟨i + 1, _, ⟨by go_num, rfl⟩, ⟨by have := HJ.out; omega⟩, HN, HS2⟩
end Go.Proofs.YtfbfeimildkigaaDoor.P
namespace Go.Proofs.YtfbfeimildkigaaDoor.classFew
open Go Go.ChangeShapes Go.WideShapes Go.ChangeAt Go.RowKit
set_option linter.unusedVariables false
set_option maxRecDepth 100000 in
theorem lifted (os : Os) (started : os.Started) (H : Type) (enc : TypeId × Value → H) :
    ReturnsInHanded {} Tryd.checked os 7 .any (fun w args => (Rows.classFewSpec.pre enc Tryd.prog Tryd.f7 [] false w args ∧ laidMetH Tryd.prog Rows.classFewRow.laid w) ∧ sizedMet enc Tryd.prog Tryd.f7 (OpenSpec.ofChange Rows.classFewSpec) false w args)
      (Rows.classFewSpec.post enc Tryd.prog Tryd.f7 false true false false) := by
  refine returnsInHanded_of_change_and (C := Tryd.checked) (X := fun w _ => laidMetH Tryd.prog Rows.classFewRow.laid w) (fun _ _ _ hh h => h.of_heap hh) LC.own started (by kernel_rfl) Tryd.func7
    (ChangeSpec.witness_shaped (enc := enc) (C := Tryd.checked) (os := os) (X := fun w _ => laidMetH Tryd.prog Rows.classFewRow.laid w) false (World.laidAll Tryd.prog os Rows.classFewRow.laid) #[.slice none 0 0, .int .u8 0, .slice none 0 0, .slice none 0 0, .int .u8 0, .int .u8 0] 8 (World.laidAll_os _ _ _)
      (World.shaped_of_ZipB (by kernel_rfl) (by kernel_rfl)) (by kernel_rfl) (by kernel_rfl) (by kernel_rfl) (LC.world_met os _)) ?_
  intro W base args ds gs before hval0 hW _ _ hL _
  have hval : ∀ (j : Nat) t v, Tryd.f7.params[j]? = some t → args[j]? = some v → Value.okWide Tryd.prog W .any base t v := hval0
  have hW' := hW
  obtain ⟨p, q, hA0, hV, rfl, _, _⟩ := hW
  have hA : DataW.TrodAll enc Tryd.prog W 0 (fun _ => true) true Tryd.f7.params.toList args.toList ds p := hA0
  rw [Tryd.params7] at hA hval
  obtain ⟨v0, vs0, d0, ds0, p0, q0, hargs, rfl, rfl, h0, r0⟩ := trodAll_cons hA
  obtain ⟨v1, vs1, d1, ds1, p1, q1, rfl, rfl, rfl, h1, r1⟩ := trodAll_cons r0
  obtain ⟨v2, vs2, d2, ds2, p2, q2, rfl, rfl, rfl, h2, r2⟩ := trodAll_cons r1
  obtain ⟨v3, vs3, d3, ds3, p3, q3, rfl, rfl, rfl, h3, r3⟩ := trodAll_cons r2
  obtain ⟨v4, vs4, d4, ds4, p4, q4, rfl, rfl, rfl, h4, r4⟩ := trodAll_cons r3
  obtain ⟨v5, vs5, d5, ds5, p5, q5, rfl, rfl, rfl, h5, r5⟩ := trodAll_cons r4
  obtain ⟨rfl, rfl, rfl⟩ := trodAll_nil r5
  obtain rfl : args = #[v0, v1, v2, v3, v4, v5] := by cases args; simp_all
  obtain ⟨rfl, rfl⟩ := trodVars_none hV
  have k0 := h0
  have lt0 : ∀ x ∈ p0, x.block < W.heap.size := by obtain ⟨m, hm⟩ := k0; exact DataW.trod_lt m _ _ _ hm
  obtain ⟨A0, len0, cap0, e0⟩ := okWide_slice Tryd.underlying22 (hval 0 22 v0 rfl rfl)
  subst e0
  obtain ⟨m0, y0, hy0⟩ := LC.arg1 h0
  obtain ⟨s0, hs0, us0⟩ := LC.u16ss hy0
  obtain ⟨a1, rfl, rfl, rfl, w1⟩ := open_int Tryd.underlying5 (hval 1 5 v1 rfl rfl) h1
  have b1 : 0 ≤ a1 ∧ a1 < 256 := by have := w1; simp [Lit.wf, IntKind.min, IntKind.max, IntKind.signed, IntKind.bits] at this; omega
  have k2 := h2
  have lt2 : ∀ x ∈ p2, x.block < W.heap.size := by obtain ⟨m, hm⟩ := k2; exact DataW.trod_lt m _ _ _ hm
  obtain ⟨A2, len2, cap2, e2⟩ := okWide_slice Tryd.underlying23 (hval 2 23 v2 rfl rfl)
  subst e2
  obtain ⟨m2, y2, hy2⟩ := LC.arg1 h2
  obtain ⟨s2, hs2, us2⟩ := LC.i8s hy2
  have k3 := h3
  have lt3 : ∀ x ∈ p3, x.block < W.heap.size := by obtain ⟨m, hm⟩ := k3; exact DataW.trod_lt m _ _ _ hm
  obtain ⟨A3, len3, cap3, e3⟩ := okWide_slice Tryd.underlying23 (hval 3 23 v3 rfl rfl)
  subst e3
  obtain ⟨m3, y3, hy3⟩ := LC.arg1 h3
  obtain ⟨s3, hs3, us3⟩ := LC.i8s hy3
  obtain ⟨a4, rfl, rfl, rfl, w4⟩ := open_int Tryd.underlying5 (hval 4 5 v4 rfl rfl) h4
  have b4 : 0 ≤ a4 ∧ a4 < 256 := by have := w4; simp [Lit.wf, IntKind.min, IntKind.max, IntKind.signed, IntKind.bits] at this; omega
  obtain ⟨a5, rfl, rfl, rfl, w5⟩ := open_int Tryd.underlying5 (hval 5 5 v5 rfl rfl) h5
  have b5 : 0 ≤ a5 ∧ a5 < 256 := by have := w5; simp [Lit.wf, IntKind.min, IntKind.max, IntKind.signed, IntKind.bits] at this; omega
  clear hA0 hval0
  obtain ⟨n4, rfl⟩ : ∃ n : Nat, a4 = (n : Int) := ⟨a4.toNat, by omega⟩
  obtain ⟨n5, rfl⟩ : ∃ n : Nat, a5 = (n : Int) := ⟨a5.toNat, by omega⟩
  have hcall := P.classFew_calls LC.no _ _ _ s0 a1 s2 s3 n4 n5 W (LC.no_old W) hs0 hs2 hs3 (by omega) (by omega) us0 b1 us2 us3
  refine hcall.mono fun e W' ⟨he, bel⟩ => ?_
  subst he
  exact ⟨_, rfl, _, _, _, [], _, [], hW', trodAll_mk1 (shut_bool Tryd.underlying4 _), (trodAll_cons_mk (Below.trod LC.laidOut (by kernel_rfl) (of_decide_eq_true (by kernel_rfl)) k0 bel lt0) (trodAll_cons_mk (shut_int Tryd.underlying5 w1) (trodAll_cons_mk (Below.trod LC.laidOut (by kernel_rfl) (of_decide_eq_true (by kernel_rfl)) k2 bel lt2) (trodAll_cons_mk (Below.trod LC.laidOut (by kernel_rfl) (of_decide_eq_true (by kernel_rfl)) k3 bel lt3) (trodAll_cons_mk (shut_int Tryd.underlying5 w4) (trodAll_cons_mk (shut_int Tryd.underlying5 w5) trodAll_mk0)))))), rfl, bel.frame _, fun h => by cases h⟩
theorem said : Rows.ClassFewSaid :=
  OpenClaim.holds_of_wide 7 Tryd.f7 rfl rfl rfl rfl rfl rfl rfl ⟨rfl, rfl, rfl, rfl, rfl⟩ rfl rfl rfl rfl rfl (by kernel_rfl) Tryd.func7 (by kernel_rfl)
    (of_decide_eq_true (by kernel_rfl)) (by unfold Func.isWrapper; first | (rw [if_pos (by decide +kernel)]; kernel_rfl) | (rw [if_neg (by decide +kernel)]; exact ⟨rfl, rfl⟩))
    (fun os started H enc _ => lifted os started H enc)
theorem plain (f : FuncId) (fn : Func) (hf : Tryd.pinned.checked.prog.funcNamed "glyphcutter/glyphcutterlaw14.ClassFew" = some f) (hfn : Tryd.pinned.checked.prog.funcs[f]? = some fn) :
    Rows.classFewCard.stood.looks = Tryd.pinned.checked.prog.looks [] ∧ ∀ (j : Nat) t, fn.params[j]? = some t → Tryd.pinned.checked.prog.wantsStandIn t = false := by
  obtain rfl : f = 7 := Option.some.inj ((show Tryd.prog.funcNamed "glyphcutter/glyphcutterlaw14.ClassFew" = some 7 by kernel_rfl).symm.trans hf) |>.symm
  obtain rfl : fn = Tryd.f7 := (Option.some.inj (Tryd.func7.symm.trans hfn)).symm
  refine ⟨by kernel_rfl, fun j t ht => ?_⟩
  rw [Tryd.params7] at ht
  have hm : t ∈ [22, 5, 23, 23, 5, 5] := by simpa using Array.mem_of_getElem? ht
  have hall : ([22, 5, 23, 23, 5, 5].all fun u => !Tryd.prog.wantsStandIn u) = true := by kernel_rfl
  exact (show Tryd.prog.wantsStandIn t = false by simpa using List.all_eq_true.1 hall t hm)
theorem card : Rows.ClassFewCardSaid :=
  Claim7.holds_tied_plain_at .later [] _ _ _ _ said (fun _ h => by cases h) (by kernel_rfl) (fun _ h => by cases h) classFew_row_tie rfl ⟨rfl, rfl⟩ (by kernel_rfl) rfl plain (by kernel_rfl)
end Go.Proofs.YtfbfeimildkigaaDoor.classFew
namespace Go.Proofs.YtfbfeimildkigaaDoor
theorem classFew_card : Rows.ClassFewCardSaid := classFew.card
end Go.Proofs.YtfbfeimildkigaaDoor
