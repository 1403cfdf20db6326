/- glyphcutterlaw15.PackBends returns true at every input, and the input reads behind the call as it read before. The condition: the listed variables read as the row says; the card ties them to the program's text. -/
import Derived.Test.YtplhfgobeicegaaDoorPb28
namespace Go.Proofs.YtplhfgobeicegaaDoor.P
open Go Go.RowKit Go.Proofs.YtplhfgobeicegaaDoorW.PrintWords Go.Proofs.YtplhfgobeicegaaDoor.PX
set_option linter.unusedVariables false
set_option linter.unusedSimpArgs false
theorem x_lt {X : Nat → Prop} {w0 w : World} {L : List PX.Item} (h : Sep X w0 w L) : ∀ k, X k → k < w.heap.size := fun k hk => h.lt k (Or.inl hk)
theorem takeR_app (a rest : List Int) (s : Bool) (n : Nat) (hn : a.length = n) : takeR n ⟨a ++ rest, s⟩ = (a, ⟨rest, s⟩) := by
 subst hn
 unfold takeR
 rw [if_neg (by rw [List.length_append]; omega)]
 simp
theorem twoR_app {x : Int} (h : 0 ≤ x ∧ x < 65536) (rest : List Int) (s : Bool) : twoR ⟨two15 x ++ rest, s⟩ = (x, ⟨rest, s⟩) := by
 unfold twoR
 rw [takeR_app (two15 x) rest s 2 rfl]
 dsimp only
 refine Prod.ext ?_ rfl
 show x / 256 % 256 * 256 + x % 256 = x
 omega
theorem twoM_app {x : Int} (h : -1 ≤ x ∧ x < 65535) (rest : List Int) (s : Bool) : twoM ⟨two15 (x + 1) ++ rest, s⟩ = (x, ⟨rest, s⟩) := by
 unfold twoM
 rw [twoR_app (x := x + 1) (by omega)]
 refine Prod.ext ?_ rfl
 show x + 1 - 1 = x
 omega
theorem oneR_app (x : Int) (rest : List Int) (s : Bool) : oneR ⟨x :: rest, s⟩ = (x, ⟨rest, s⟩) := by
 unfold oneR
 rw [show x :: rest = [x] ++ rest from rfl, takeR_app [x] rest s 1 rfl]
 rfl
theorem lead_take (x : Int) : ∀ (f : Nat) (t : List Int), t.take (lead x f t) = List.replicate (lead x f t) x
 | 0, t => by rw [lead_0]; rfl
 | f + 1, [] => by rw [lead_nil]; rfl
 | f + 1, y :: t => by
  rw [lead]
  split
  ·next h => subst h; rw [List.take_succ_cons, List.replicate_succ, lead_take y f t]
  ·rfl
theorem rowR_runs (read : Rd → Int × Rd) (lay : Int → List Int) (good : Int → Prop) (hr : ∀ x, good x → ∀ rest s, read ⟨lay x ++ rest, s⟩ = (x, ⟨rest, s⟩)) (many : Nat) (rest : List Int) :
  ∀ (f g : Nat) (l t : List Int), l.length + t.length = many → t.length ≤ f → t.length ≤ g → (∀ x ∈ t, good x) → rowR read many f l ⟨runsF lay g t ++ rest, false⟩ = (l ++ t, ⟨rest, false⟩)
 | 0, g, l, t, hm, hf, hg, ht => by
  obtain rfl : t = [] := List.eq_nil_of_length_eq_zero (by omega)
  rw [runsF_nil, rowR, List.append_nil]; rfl
 | f + 1, g, l, [], hm, hf, hg, ht => by
  rw [runsF_nil, rowR, if_neg (by rintro ⟨h, _⟩; rw [List.length_nil] at hm; omega), List.append_nil]; rfl
 | f + 1, 0, l, x :: t, hm, hf, hg, ht => by rw [List.length_cons] at hg; omega
 | f + 1, g + 1, l, x :: t, hm, hf, hg, ht => by
  rw [List.length_cons] at hm hf hg
  have hl := (lead_le x 254 t).2
  have ht2 := lead_take x 254 t
  have ih := fun l2 h => rowR_runs read lay good hr many rest f g l2 (t.drop (lead x 254 t)) h (by rw [List.length_drop]; omega) (by rw [List.length_drop]; omega) (fun y hy => ht y (List.mem_cons_of_mem _ (List.mem_of_mem_drop hy)))
  rw [runsF, rowR]
  generalize lead x 254 t = n at *
  rw [if_pos ⟨by omega, rfl⟩, List.cons_append, oneR_app]
  dsimp only
  rw [if_neg (by omega), List.append_assoc, hr x (ht x List.mem_cons_self)]
  dsimp only
  rw [Int.toNat_natCast, ih _ (by rw [List.length_append, List.length_replicate, List.length_drop]; omega), List.append_assoc]
  refine Prod.ext ?_ rfl
  show l ++ (List.replicate (n + 1) x ++ t.drop n) = l ++ x :: t
  rw [List.replicate_succ, List.cons_append, ← ht2, List.take_append_drop]
theorem states_rows (k : Nat) (rest : List Int) : ∀ (N : List (List Int)) (T : List Int) (N0 : List (List Int)) (T0 : List Int), N.length = T.length → (∀ row ∈ N, row.length = k ∧ ∀ x ∈ row, -1 ≤ x ∧ x < 65535) → (∀ x ∈ T, -1 ≤ x ∧ x < 65535) →
  statesR k T.length N0 T0 ⟨rowsE N T ++ rest, false⟩ = (N0 ++ N, T0 ++ T, ⟨rest, false⟩)
 | [], [], N0, T0, _, _, _ => by simp [statesR, rowsE]
 | [], _ :: _, N0, T0, h, _, _ => by cases h
 | _ :: _, [], N0, T0, h, _, _ => by cases h
 | row :: N, x :: T, N0, T0, h, hN, hT => by
  rw [List.length_cons, statesR, rowsE]
  rw [show (x :: T).getD 0 0 = x from rfl, show (x :: T).drop 1 = T from rfl, List.append_assoc, List.append_assoc, twoM_app (hT x List.mem_cons_self)]
  dsimp only
  have hrow := hN row List.mem_cons_self
  rw [rowR_runs twoM (fun x => two15 (x + 1)) (fun x => -1 ≤ x ∧ x < 65535) (fun y hy rest s => twoM_app hy rest s) k (rowsE N T ++ rest) k row.length [] row (by simp [hrow.1]) (by omega) (Nat.le_refl _) hrow.2]
  dsimp only
  rw [if_neg (by simp), states_rows k rest N T _ _ (by rw [List.length_cons, List.length_cons] at h; omega) (fun r hr => hN r (List.mem_cons_of_mem _ hr)) (fun y hy => hT y (List.mem_cons_of_mem _ hy))]
  simp
theorem manyGo_max : ∀ (l : List Int) (n : Int), manyGo l n ≠ -1 → manyGo l n = n ∨ ∃ c ∈ l, manyGo l n = c + 1
 | [], n, _ => .inl rfl
 | c :: t, n, h => by
  rw [manyGo] at h ⊢
  by_cases h2 : c > n
  ·rw [if_pos h2] at h; exact absurd rfl h
  ·rw [if_neg h2] at h ⊢
   rcases manyGo_max t _ h with h3 | ⟨c2, h3, h4⟩
   ·rw [h3]
    rcases Int.le_total n (c + 1) with h5 | h5
    ·exact .inr ⟨c, List.mem_cons_self, by omega⟩
    ·exact .inl (by omega)
   ·exact .inr ⟨c2, List.mem_cons_of_mem _ h3, h4⟩
theorem many_max {cl : List Int} {n : Nat} (h : many14 cl = (n : Int)) (h0 : n ≠ 0) : maxF cl + 1 = (n : Int) := by
 obtain ⟨h1, h2⟩ := many14_all h h0
 unfold many14 at h
 by_cases h3 : manyGo cl 0 = -1 ∨ cl.length ≠ 256
 ·rw [if_pos h3] at h; omega
 ·rw [if_neg h3] at h
  have h4 := (maxF_le cl ((n : Int) - 1) (by omega)).2 (fun x hx => by have := h2 x hx; omega)
  rcases manyGo_max cl 0 (fun e => h3 (.inl e)) with h5 | ⟨c, h5, h6⟩
  ·omega
  ·have h7 := (maxF_le cl (maxF cl) (by omega)).1 (Int.le_refl _) c h5
   omega
def readB (s : List Int) : List Int × List (List Int) × List Int × Rd :=
 ((rowR oneR 256 256 [] (twoR ⟨s.drop 3, false⟩).2).1, statesR ((maxF (rowR oneR 256 256 [] (twoR ⟨s.drop 3, false⟩).2).1).toNat + 1) (twoR ⟨s.drop 3, false⟩).1.toNat [] [] (rowR oneR 256 256 [] (twoR ⟨s.drop 3, false⟩).2).2)
theorem mem_all_at {α : Type} {l : List α} {d : α} {q : α → Prop} {n : Nat} (hl : l.length = n) (h : ∀ i, i < n → q (l.getD i d)) : ∀ x ∈ l, q x := fun x hx => by
 obtain ⟨i, hi, rfl⟩ := List.getElem_of_mem hx
 have := h i (by omega)
 rwa [List.getD_eq_getElem?_getD, List.getElem?_eq_getElem hi, Option.getD_some] at this
structure EncFact (C : List Int) (N : List (List Int)) (T : List Int) : Prop where
 len : C.length = 256
 u8 : U8s C
 rows : N.length = T.length
 pos : 1 ≤ T.length
 le : T.length ≤ 40000
 row : ∀ row ∈ N, row.length = (maxF C).toNat + 1 ∧ ∀ x ∈ row, -1 ≤ x ∧ x < 65535
 tag : ∀ x ∈ T, -1 ≤ x ∧ x < 65535
theorem enc_fact {C : List Int} {N : List (List Int)} {T : List Int} (hu : U8s C) (h : EncOk C N T) : EncFact C N T := by
 obtain ⟨n, h1, h2, h3, h4, h5, h6, h7⟩ := tsound_head hu h.1
 have hm := many_max h1 h5.1
 have h5' := h5
 unfold THead at h5
 refine ⟨h3, hu, by omega, by omega, by omega, mem_all_at (d := []) (n := T.length) (by omega) (fun i hi => ?_), fun x hx => ?_⟩
 ·have h8 := h6 i hi
  unfold TRow at h8
  refine ⟨by omega, mem_all_at (d := 0) h8.1 (fun j hj => ?_)⟩
  have := h8.2.2 j hj
  omega
 ·have h8 := (maxF_le T 65534 (by omega)).1 h.2 x hx
  have h9 := mem_all_at (d := 0) (q := fun x => -1 ≤ x) rfl (fun i hi => (h6 i hi).2.1) x hx
  have h10 : -1 ≤ x := h9
  omega
theorem bodyE_head (C : List Int) (N : List (List Int)) (T : List Int) (rest : List Int) : bodyE C N T ++ rest = [71, 67, 1] ++ (two15 (T.length : Int) ++ (runsF (fun x => [x]) C.length C ++ (rowsE N T ++ rest))) := by
 unfold bodyE headE
 simp only [List.append_assoc]
theorem readB_enc {C : List Int} {N : List (List Int)} {T : List Int} (hu : U8s C) (h : EncOk C N T) (rest : List Int) : readB (bodyE C N T ++ rest) = (C, N, T, ⟨rest, false⟩) := by
 have hf := enc_fact hu h
 have e1 : (bodyE C N T ++ rest).drop 3 = two15 (T.length : Int) ++ (runsF (fun x => [x]) C.length C ++ (rowsE N T ++ rest)) := by
  rw [bodyE_head]; rfl
 have hle := hf.le
 have e2 : twoR ⟨(bodyE C N T ++ rest).drop 3, false⟩ = ((T.length : Int), ⟨runsF (fun x => [x]) C.length C ++ (rowsE N T ++ rest), false⟩) := by
  rw [e1, twoR_app (by omega)]
 have e3 : rowR oneR 256 256 [] ⟨runsF (fun x => [x]) C.length C ++ (rowsE N T ++ rest), false⟩ = (C, ⟨rowsE N T ++ rest, false⟩) := by
  have := rowR_runs oneR (fun x => [x]) (fun _ => True) (fun x _ rest s => oneR_app x rest s) 256 (rowsE N T ++ rest) 256 C.length [] C (by simp [hf.len]) (by rw [hf.len]; exact Nat.le_refl _) (Nat.le_refl _) (fun _ _ => trivial)
  rw [this]; rfl
 have e4 := states_rows ((maxF C).toNat + 1) rest N T [] [] hf.rows hf.row hf.tag
 unfold readB
 rw [e2]
 dsimp only
 rw [e3]
 dsimp only
 rw [Int.toNat_natCast, e4]
 rfl
theorem sealE_len (b : List Int) : (sealE b).length = b.length + 4 := by unfold sealE two15; simp
theorem sealE_take (b : List Int) : (sealE b).take b.length = b := by
 unfold sealE
 rw [List.append_assoc, List.take_left]
theorem bodyE_len (C : List Int) (N : List (List Int)) (T : List Int) : 5 ≤ (bodyE C N T).length := by
 have := bodyE_head C N T []
 rw [List.append_nil] at this
 rw [this]
 unfold two15
 simp only [List.length_append, List.length_cons, List.length_nil]
 omega
theorem encR_pos {C : List Int} {N : List (List Int)} {T : List Int} (h : EncOk C N T) : encR C N T = (sealE (bodyE C N T), 0) := by unfold encR; rw [if_pos h]
theorem encR_inv {C : List Int} {N : List (List Int)} {T : List Int} (h : (encR C N T).2 = 0) : EncOk C N T := by
 unfold encR at h
 split at h
 ·assumption
 ·cases h
theorem dec_enc {C : List Int} {N : List (List Int)} {T : List Int} (hu : U8s C) (h : EncOk C N T) : decF (sealE (bodyE C N T)) = ((C, N, T), 0) := by
 have hf := enc_fact hu h
 have hl := bodyE_len C N T
 have hr := readB_enc hu h []
 rw [List.append_nil] at hr
 have e1 : startR (sealE (bodyE C N T)) = ⟨(bodyE C N T).drop 3, false⟩ := by
  unfold startR
  rw [sealE_len, Nat.add_sub_cancel, sealE_take]
 unfold readB at hr
 injection hr with r1 r2
 rw [r1] at r2
 have hp : hasPre (sealE (bodyE C N T)) [71, 67, 1] = true := by
  unfold hasPre
  rw [decide_eq_true (by rw [sealE_len]; simp only [List.length_cons, List.length_nil]; omega), Bool.true_and]
  refine decide_eq_true ?_
  unfold sealE
  rw [List.append_assoc, bodyE_head]
  rfl
 unfold decF
 rw [if_pos ⟨by rw [sealE_len]; omega, hp⟩, e1]
 unfold decMid
 rw [r1, if_neg (by rw [hf.len]; omega), r2]
 unfold decEnd
 rw [encR_pos h, if_pos ⟨rfl, rfl, rfl⟩]
theorem rowR_cl (b : List Int) : (decF b).1.1 = [] ∨ (decF b).1.1 = (rowR oneR 256 256 [] (twoR (startR b)).2).1 := by
 unfold decF decMid decEnd
 split
 ·split
  ·exact .inl rfl
  ·split
   ·exact .inr rfl
   ·exact .inl rfl
 ·exact .inl rfl
theorem decF_u8s {b : List Int} (h : U8s b) : U8s (decF b).1.1 := by
 rcases rowR_cl b with e | e
 ·rw [e]; exact fun _ h => by cases h
 ·rw [e]; exact (rowR_u8 256 256 (r := (twoR (startR b)).2) (takeR_u8 2 (startR_u8 h)).2).1
theorem dec_form {b : List Int} (hb : U8s b) (h : (decF b).2 = 0) : ∃ C N T, decF b = ((C, N, T), 0) ∧ U8s C ∧ EncOk C N T ∧ b = sealE (bodyE C N T) := by
 have h1 := decF_enc h
 have hu := decF_u8s hb
 obtain ⟨⟨⟨C, N, T⟩, e⟩, hd⟩ : ∃ p, p = decF b := ⟨_, rfl⟩
 rw [← hd] at h h1 hu
 dsimp only at h h1 hu
 subst h
 have hok := encR_inv (C := C) (N := N) (T := T) (by rw [h1])
 rw [encR_pos hok] at h1
 injection h1 with h1 _
 exact ⟨C, N, T, hd.symm, hu, hok, h1.symm⟩
theorem dec_bent {C : List Int} {N : List (List Int)} {T : List Int} (hu : U8s C) (h : EncOk C N T) {i : Nat} {y : Int} (hy : 0 ≤ y ∧ y < 256) (hi : i < (sealE (bodyE C N T)).length) (hne : y ≠ (sealE (bodyE C N T)).getD i 0) : decF ((sealE (bodyE C N T)).set i y) = noTable := by
 have hub0 : U8s (bodyE C N T) := U8s.app (headE_u8 hu T) (rowsE_u8 N T)
 have hub : U8s ((sealE (bodyE C N T)).set i y) := fun c hc => by
  rcases List.mem_or_eq_of_mem_set hc with hc | rfl
  ·exact sealE_u8 hub0 c hc
  ·exact hy
 refine decF_not (fun h0 => ?_)
 obtain ⟨C2, N2, T2, _, hu2, h2, e⟩ := dec_form hub h0
 have hl := congrArg List.length e
 rw [List.length_set, sealE_len, sealE_len] at hl
 generalize bodyE C N T = b at *
 generalize bodyE C2 N2 T2 = b2 at *
 have hlb : b2.length = b.length := by omega
 have e2 := congrArg (List.take b2.length) e
 rw [sealE_take, hlb, List.take_set, sealE_take] at e2
 have e3 := congrArg (List.drop b2.length) e
 have e4 : (sealE b2).drop b2.length = two15 ((sumL b2 / 65536 : Nat) : Int) ++ two15 ((sumL b2 % 65536 : Nat) : Int) := by unfold sealE; rw [List.append_assoc, List.drop_left]
 have e5 : (sealE b).drop b.length = two15 ((sumL b / 65536 : Nat) : Int) ++ two15 ((sumL b % 65536 : Nat) : Int) := by unfold sealE; rw [List.append_assoc, List.drop_left]
 by_cases hib : i < b.length
 ·rw [e4, hlb, List.drop_set_of_lt hib, e5] at e3
  have hs : sumL b2 = sumL b := by
   have l1 := sumL_lt b
   have l2 := sumL_lt b2
   have a1 := congrArg (List.getD · 0 0) e3
   have a2 := congrArg (List.getD · 1 0) e3
   have a3 := congrArg (List.getD · 2 0) e3
   have a4 := congrArg (List.getD · 3 0) e3
   have q1 := l1.lt
   have q2 := l2.lt
   generalize sumL b = s at *
   generalize sumL b2 = t at *
   simp only [two15, List.cons_append, List.nil_append, List.getD_cons_zero, List.getD_cons_succ] at a1 a2 a3 a4
   omega
  rw [← e2] at hs
  have h6 := sumL_set b i y hub0 hy hib hs
  rw [h6] at hne
  refine hne ?_
  unfold sealE
  rw [List.append_assoc, List.getD_eq_getElem?_getD, List.getD_eq_getElem?_getD, List.getElem?_append_left hib]
 ·rw [List.set_eq_of_length_le (by omega)] at e2
  subst e2
  have h7 := congrArg (fun l => l.getD i 0) e
  rw [List.getD_eq_getElem?_getD, List.getElem?_set_self hi, Option.getD_some] at h7
  exact hne h7
end Go.Proofs.YtplhfgobeicegaaDoor.P
namespace Go.Proofs.YtplhfgobeicegaaDoor.P
open Go Go.RowKit Go.Proofs.YtplhfgobeicegaaDoorW.PrintWords Go.Proofs.YtplhfgobeicegaaDoor.PX
set_option linter.unusedVariables false
set_option linter.unusedSimpArgs false
theorem top_at {l : List Int} (h : ∀ t ∈ l, t ≤ 3) (i : Nat) : l.getD i 0 ≤ 3 := by
 rcases Nat.lt_or_ge i l.length with c | c
 ·exact h _ (mem_getD l 0 _ c)
 ·rw [List.getD_eq_getElem?_getD, List.getElem?_eq_none c]; decide
theorem least_top (parts : List (List Sp)) (next : List (List Int)) (tags : List Int) (h : ∀ t ∈ tags, t ≤ 3) : ∀ t ∈ (leastL parts next tags).tags, t ≤ 3 := by
 unfold leastL leastD leastC leastB
 intro t ht
 obtain ⟨s, _, rfl⟩ := List.mem_map.1 ht
 exact top_at h s.toNat
theorem raw_top (next : List (List Int)) (tags : List Int) (rows : List (List (List Rg))) (h : ∀ t ∈ tags, t ≤ 3) : ∀ (f i : Nat) (s : RawSt), (∀ t ∈ s.tags, t ≤ 3) → ∀ t ∈ (rawGo next tags rows f i s).tags, t ≤ 3
 | 0, i, s, hs => hs
 | f + 1, i, s, hs => by
  rw [rawGo]
  split
  ·refine raw_top next tags rows h f (i + 1) _ (fun t ht => ?_)
   unfold rawStep at ht
   rcases List.mem_append.1 ht with ht | ht
   ·exact hs t ht
   ·obtain rfl := List.mem_singleton.1 ht
    split
    ·exact top_at h _
    ·decide
  ·exact hs
theorem of13_top (B : Nat) (parts : List (List Sp)) (next : List (List Int)) (tags : List Int) (h : ∀ t ∈ tags, t ≤ 3) : ∀ t ∈ (of13 B parts next tags).1.2, t ≤ 3 := by
 unfold of13
 split
 ·split
  ·intro t ht; cases ht
  ·unfold least13 dfa13
   refine least_top _ _ _ ?_
   unfold raw13 rawL
   exact raw_top _ _ _ (least_top parts next tags h) B 0 _ (fun t ht => by cases ht)
 ·intro t ht; cases ht
theorem tag_top (tags : List Int) (i : Nat) : tag11 tags i ≤ 3 := by
 unfold tag11 mx
 split
 ·have := Int.tmod_lt_of_pos (tags.getD i 0) (b := 4) (by decide)
  (repeat' split) <;> omega
 ·decide
theorem b14_top (c : List (List Int)) (k : Int) (next tags : List Int) : ∀ t ∈ (b14 c k next tags).2, t ≤ 3 := by
 unfold b14
 split
 ·refine of13_top _ _ _ _ (fun t ht => ?_)
  have ht' : t ∈ (List.range (1 + k % 9).toNat).map (tag11 tags) := ht
  obtain ⟨i, _, rfl⟩ := List.mem_map.1 ht'
  exact tag_top tags i
 ·exact of13_top _ _ _ _ (fun t ht => by obtain rfl := List.mem_singleton.1 ht; decide)
theorem t15_ok (c : List (List Int)) (k : Int) (next tags : List Int) (hk : 0 ≤ k ∧ k < 256) : U8s (t15 c k next tags).1 ∧ TSound (t15 c k next tags).1 (t15 c k next tags).2.1 (t15 c k next tags).2.2 ∧ EncOk (t15 c k next tags).1 (t15 c k next tags).2.1 (t15 c k next tags).2.2 := by
 have hb := b14_sound c k next tags hk
 have ht := b14_top c k next tags
 unfold t15
 generalize b14 c k next tags = b at *
 unfold of14
 rw [if_pos hb]
 dsimp only
 have h1 := tsound_of hb
 have h2 := hb.1.1
 refine ⟨classes_u8 _, h1, h1, ?_⟩
 exact (maxF_le b.2 65534 h2).2 (fun x hx => by have := ht x hx; omega)
end Go.Proofs.YtplhfgobeicegaaDoor.P
namespace Go.Proofs.YtplhfgobeicegaaDoor.P
open Go Go.RowKit Go.Proofs.YtplhfgobeicegaaDoorW.PrintWords Go.Proofs.YtplhfgobeicegaaDoorW.PrintLast Go.Proofs.YtplhfgobeicegaaDoorW.PrintMore Go.Proofs.YtplhfgobeicegaaDoor.PX
set_option linter.unusedVariables false
set_option linter.unusedSimpArgs false
set_option maxRecDepth 100000
theorem set_same {b : List Int} {i : Nat} {y : Int} (hi : i < b.length) (h : b.getD i 0 = y) : b.set i y = b := by
 rw [List.getD_eq_getElem?_getD, List.getElem?_eq_getElem hi, Option.getD_some] at h
 rw [← h]; exact List.set_getElem_self hi
theorem bend_dec {C : List Int} {N : List (List Int)} {T : List Int} (hu : U8s C) (h : EncOk C N T) (b : List Int) (hb : b = sealE (bodyE C N T)) (i p x : Nat) (hi : i < b.length) (hp : b.getD i 0 = (p : Int)) (hp8 : p < 256) (hx : x < 256) :
  (x = 0 → (decF (b.set i ((p ^^^ x : Nat) : Int))).2 = 0) ∧ (x ≠ 0 → decF (b.set i ((p ^^^ x : Nat) : Int)) = noTable) := by
 constructor
 ·intro h0
  subst h0
  rw [Nat.xor_zero, set_same hi hp, hb, dec_enc hu h]
 ·intro h0
  have hq : p ^^^ x ≠ p := by
   intro h1
   have h2 : p ^^^ x = p ^^^ 0 := by rw [h1, Nat.xor_zero]
   exact h0 (xor_inj2 h2)
  have hq8 : p ^^^ x < 256 := Nat.xor_lt_two_pow (n := 8) hp8 hx
  rw [hb] at hi hp ⊢
  exact dec_bent hu h (by omega) hi (by rw [hp]; omega)
set_option maxHeartbeats 16000000 in
theorem packBends_calls (X : Nat → Prop) (v0 v2 v3 : Value) (c : List (List Int)) (k : Int) (next tags : List Int) (a x : Nat) (w : World) (hX : ∀ k, X k → k < w.heap.size) (h0 : PV kU16s X w v0 c) (h2 : PV (Kd.int .i8) X w v2 next) (h3 : PV (Kd.int .i8) X w v3 tags)
  (hc : ∀ l ∈ c, ∀ x ∈ l, 0 ≤ x ∧ x < 65536) (hk : 0 ≤ k ∧ k < 256) (hn : ∀ x ∈ next, -128 ≤ x ∧ x ≤ 127) (ht : ∀ x ∈ tags, -128 ≤ x ∧ x ≤ 127) (ha : a < 65536) (hx : x < 256) :
  Calls Tryd.prog 4 #[v0, .int .u8 k, v2, v3, .int .u16 (a : Int), .int .u8 (x : Int)] w fun e w' => e = .returned (.bool true) ∧ Below w.heap.size w w' := by
 have H0 := Aside0.mk h0
 have H2 := Aside0.mk h2
 have H3 := Aside0.mk h3
 have HC := Aside0.mk hc
 have HK := Aside0.mk hk
 have HRN := Aside0.mk hn
 have HRT := Aside0.mk ht
 have HAX := Aside0.mk (And.intro ha hx)
 have hok := t15_ok c k next tags hk
 obtain ⟨⟨C, N, T⟩, hTb⟩ : ∃ p, p = t15 c k next tags := ⟨_, rfl⟩
 have HT := Aside0.mk hTb.symm
 rw [← hTb] at hok
 dsimp only at hok
 have HU := Aside0.mk hok.1
 have HOK := Aside0.mk hok.2.2
 obtain ⟨b, hb⟩ : ∃ b, b = sealE (bodyE C N T) := ⟨_, rfl⟩
 have HE := Aside0.mk (show encR C N T = (b, 0) by rw [hb]; exact encR_pos hok.2.2)
 have HB := Aside0.mk hb
 have hl9 : 9 ≤ b.length := by have := bodyE_len C N T; rw [hb, sealE_len]; omega
 have HBU := Aside0.mk (show U8s b by rw [hb]; exact sealE_u8 (U8s.app (headE_u8 hok.1 T) (rowsE_u8 N T)))
 have HS := Aside0.mk (Sep.start hX)
 clear h0 h2 h3 hc hn ht hX hk hTb hok hb ha hx
 have d1 : decide ((b.length : Int) < 9) = false := decide_eq_false (by omega)
 have d2 : decide (b.length < 9) = false := decide_eq_false (by omega)
 go_enter Tryd.func4, Tryd.ntmps4
 go_upto_region 4 with (first
  | (go_at_call 10; (with_reducible refine (table15_calls _ _ _ _ c k next tags _ HS.out.lt (HS.out.arg H0.out) (HS.out.arg H2.out) (HS.out.arg H3.out) HC.out HK.out HRN.out HRT.out).mono ?_); rintro ee w5 ⟨a0, a1, a2, rfl, h0, h1, h2, hb⟩; rw [HT.out] at h0 h1 h2; have hs := ((HS.out.push_ro hb h0).push_ro (Below.refl _ _) (h1.to (fun _ _ h => Ys_ro h))).push_ro (Below.refl _ _) (h2.to (fun _ _ h => Ys_ro (Ys_ro h))); simp only [List.nil_append, List.cons_append] at hs; clear h0 h1 h2 hb; clear HS; have HS := Aside0.mk hs; clear hs)
  | (go_at_call 9; (with_reducible refine (encode_calls _ _ _ _ C N T _ HS.out.lt (HS.out.ro 0 rfl) (HS.out.ro 1 rfl) (HS.out.ro 2 rfl) HU.out).mono ?_); rintro ee w6 ⟨v5, rfl, hs2⟩; rw [HE.out] at hs2 ⊢; have hs := HS.out.append hs2; simp only [List.nil_append, List.cons_append] at hs; clear hs2; obtain ⟨A4, c4, e4⟩ := hs.form 3 rfl; subst e4; clear HS; have HS := Aside0.mk hs; clear hs))
 clear d1 d2
 have m0 := (HS.out.res_row 3 rfl).max
 obtain ⟨i, hi⟩ : ∃ i, i = a % b.length := ⟨_, rfl⟩
 have hil : i < b.length := by rw [hi]; exact Nat.mod_lt _ (by omega)
 have HIQ := Aside0.mk (show (wrap64 (a : Int)).tmod (b.length : Int) = (i : Int) by rw [show wrap64 (a : Int) = (a : Int) from IntWalk.wrap64_in _ (by have := HAX.out.1; omega), Int.tmod_eq_emod_of_nonneg (by omega), hi]; omega)
 have hbl : ¬ (b.length : Int) = 0 := by omega
 clear hi
 go_upto_region 5 with fail
 rw [HIQ.out]
 obtain ⟨p, hp, hp1⟩ := u8s_at HBU.out i hil
 have HBD := Aside0.mk (bend_dec HU.out HOK.out b HB.out i p x hil hp hp1 HAX.out.2)
 obtain ⟨g, c9, e, z, f, h⟩ := HS.out.int 3 rfl i hil
 cases e
 rw [hp] at z
 have hi0 : (0 : Int) ≤ (i : Int) := by omega
 have hi1 : (i : Int) < (b.length : Int) := by omega
 have hxr : bits .xor .u8 (p : Int) (x : Int) = ((p ^^^ x : Nat) : Int) := u8_xor_nat p x hp1 HAX.out.2
 have hq8 : p ^^^ x < 256 := Nat.xor_lt_two_pow (n := 8) hp1 HAX.out.2
 obtain ⟨q, hq⟩ : ∃ q, q = p ^^^ x := ⟨_, rfl⟩
 have hbd := HBD.out
 clear HBD
 rw [← hq] at hxr hq8 hbd
 have HUS := Aside0.mk (HBU.out.set i (q := (q : Int)) (by omega))
 obtain ⟨⟨⟨C2, N2, T2⟩, ec⟩, hd⟩ : ∃ p, p = decF (b.set i (q : Int)) := ⟨_, rfl⟩
 rw [← hd] at hbd
 have HBD := Aside0.mk hbd
 have HD := Aside0.mk hd.symm
 have hs := h (q : Int)
 have HS2 := Aside0.mk hs
 clear hs h hq hp hd hbd
 go_upto_region 6 with fail
 clear HS hxr z f
 have hs := HS2.out
 obtain ⟨w2, hw2⟩ : ∃ x, x = w6.setCell ⟨g, i, none⟩ (.int .u8 (q : Int)) := ⟨_, rfl⟩
 rw [← hw2] at hs ⊢
 simp only [List.set_cons_zero, List.set_cons_succ] at hs
 clear HS2 hw2
 have HS := Aside0.mk hs
 clear hs
 go_upto_region 7 with (first
  | (go_at_call 11; (with_reducible refine (decode_calls X _ (b.set i (q : Int)) _ (x_lt HS.out) (HS.out.res_row 3 rfl) HUS.out).mono ?_); rintro ee w7 ⟨a0, a1, a2, rfl, h0, h1, h2, hb⟩; rw [HD.out] at h0 h1 h2 ⊢; obtain ⟨A9, c9, e9⟩ := PV.form2 h0; subst e9; obtain ⟨A10, c10, e10⟩ := PV.form2 h1; subst e10; obtain ⟨A11, c11, e11⟩ := PV.form2 h2; subst e11; have hs := (HS.out.call hb).push_box [.slice A9 C2.length c9, .slice A10 N2.length c10, .slice A11 T2.length c11] 36; simp only [List.nil_append, List.cons_append] at hs; clear h0 h1 h2 hb; clear HS; have HS := Aside0.mk hs; clear hs))
 rcases Nat.eq_zero_or_pos x with hx0 | hx0
 case inl =>
  have e2 : ((x : Int) == 0) = true := by rw [hx0]; rfl
  have he := HBD.out.1 hx0
  have he2 : ec = 0 := he
  clear he
  subst he2
  go_wp2_with (first
   | (go_at_call 6; (with_reducible refine (known15_calls _).mono ?_); rintro ee w8 ⟨rfl, hb⟩; have hs := HS.out.call hb; clear hb; clear HS; have HS := Aside0.mk hs; clear hs))
  go_ret
  exact ⟨rfl, HS.out.below⟩
 case inr =>
  have e2 : ((x : Int) == 0) = false := beq_eq_false_iff_ne.2 (by omega)
  have he := HBD.out.2 (by omega)
  unfold noTable at he
  injection he with _ he
  subst he
  go_wp2_with (first
   | (go_at_call 6; (with_reducible refine (known15_calls _).mono ?_); rintro ee w8 ⟨rfl, hb⟩; have hs := HS.out.call hb; clear hb; clear HS; have HS := Aside0.mk hs; clear hs))
  go_ret
  exact ⟨rfl, HS.out.below⟩
end Go.Proofs.YtplhfgobeicegaaDoor.P
namespace Go.Proofs.YtplhfgobeicegaaDoor.packBends
open Go Go.ChangeShapes Go.WideShapes Go.ChangeAt Go.RowKit
set_option linter.unusedVariables false
set_option maxRecDepth 100000 in
theorem lifted (os : Os) (started : os.Started) (H : Type) (enc : TypeId × Value → H) :
  ReturnsInHanded {} Tryd.checked os 4 .any (fun w args => (Rows.packBendsSpec.pre enc Tryd.prog Tryd.f4 [] false w args ∧ laidMetH Tryd.prog Rows.packBendsRow.laid w) ∧ sizedMet enc Tryd.prog Tryd.f4 (OpenSpec.ofChange Rows.packBendsSpec) false w args)
   (Rows.packBendsSpec.post enc Tryd.prog Tryd.f4 false true false false) := by
 refine returnsInHanded_of_change_and (C := Tryd.checked) (X := fun w _ => laidMetH Tryd.prog Rows.packBendsRow.laid w) (fun _ _ _ hh h => h.of_heap hh) LC.own started (by kernel_rfl) Tryd.func4
  (ChangeSpec.witness_shaped (enc := enc) (C := Tryd.checked) (os := os) (X := fun w _ => laidMetH Tryd.prog Rows.packBendsRow.laid w) false (World.laidAll Tryd.prog os Rows.packBendsRow.laid) #[.slice none 0 0, .int .u8 0, .slice none 0 0, .slice none 0 0, .int .u16 0, .int .u8 0] 8 (World.laidAll_os _ _ _)
   (World.shaped_of_ZipB (by kernel_rfl) (by kernel_rfl)) (by kernel_rfl) (by kernel_rfl) (by kernel_rfl) (LC.world_met os _)) ?_
 intro W base args ds gs before hval0 hW _ _ hL _
 have hval : ∀ (j : Nat) t v, Tryd.f4.params[j]? = some t → args[j]? = some v → Value.okWide Tryd.prog W .any base t v := hval0
 have hW' := hW
 obtain ⟨p, q, hA0, hV, rfl, _, _⟩ := hW
 have hA : DataW.TrodAll enc Tryd.prog W 0 (fun _ => true) true Tryd.f4.params.toList args.toList ds p := hA0
 rw [Tryd.params4] at hA hval
 obtain ⟨v0, vs0, d0, ds0, p0, q0, hargs, rfl, rfl, h0, r0⟩ := trodAll_cons hA
 obtain ⟨v1, vs1, d1, ds1, p1, q1, rfl, rfl, rfl, h1, r1⟩ := trodAll_cons r0
 obtain ⟨v2, vs2, d2, ds2, p2, q2, rfl, rfl, rfl, h2, r2⟩ := trodAll_cons r1
 obtain ⟨v3, vs3, d3, ds3, p3, q3, rfl, rfl, rfl, h3, r3⟩ := trodAll_cons r2
 obtain ⟨v4, vs4, d4, ds4, p4, q4, rfl, rfl, rfl, h4, r4⟩ := trodAll_cons r3
 obtain ⟨v5, vs5, d5, ds5, p5, q5, rfl, rfl, rfl, h5, r5⟩ := trodAll_cons r4
 obtain ⟨rfl, rfl, rfl⟩ := trodAll_nil r5
 obtain rfl : args = #[v0, v1, v2, v3, v4, v5] := by cases args; simp_all
 obtain ⟨rfl, rfl⟩ := trodVars_none hV
 have k0 := h0
 have lt0 : ∀ x ∈ p0, x.block < W.heap.size := by obtain ⟨m, hm⟩ := k0; exact DataW.trod_lt m _ _ _ hm
 obtain ⟨A0, len0, cap0, e0⟩ := okWide_slice Tryd.underlying28 (hval 0 28 v0 rfl rfl)
 subst e0
 obtain ⟨m0, y0, hy0⟩ := LC.arg1 h0
 obtain ⟨s0, hs0, us0⟩ := LC.u16ss hy0
 obtain ⟨a1, rfl, rfl, rfl, w1⟩ := open_int Tryd.underlying5 (hval 1 5 v1 rfl rfl) h1
 have b1 : 0 ≤ a1 ∧ a1 < 256 := by have := w1; simp [Lit.wf, IntKind.min, IntKind.max, IntKind.signed, IntKind.bits] at this; omega
 have k2 := h2
 have lt2 : ∀ x ∈ p2, x.block < W.heap.size := by obtain ⟨m, hm⟩ := k2; exact DataW.trod_lt m _ _ _ hm
 obtain ⟨A2, len2, cap2, e2⟩ := okWide_slice Tryd.underlying29 (hval 2 29 v2 rfl rfl)
 subst e2
 obtain ⟨m2, y2, hy2⟩ := LC.arg1 h2
 obtain ⟨s2, hs2, us2⟩ := LC.i8s hy2
 have k3 := h3
 have lt3 : ∀ x ∈ p3, x.block < W.heap.size := by obtain ⟨m, hm⟩ := k3; exact DataW.trod_lt m _ _ _ hm
 obtain ⟨A3, len3, cap3, e3⟩ := okWide_slice Tryd.underlying29 (hval 3 29 v3 rfl rfl)
 subst e3
 obtain ⟨m3, y3, hy3⟩ := LC.arg1 h3
 obtain ⟨s3, hs3, us3⟩ := LC.i8s hy3
 obtain ⟨a4, rfl, rfl, rfl, w4⟩ := open_int Tryd.underlying23 (hval 4 23 v4 rfl rfl) h4
 have b4 : 0 ≤ a4 ∧ a4 < 65536 := by have := w4; simp [Lit.wf, IntKind.min, IntKind.max, IntKind.signed, IntKind.bits] at this; omega
 obtain ⟨a5, rfl, rfl, rfl, w5⟩ := open_int Tryd.underlying5 (hval 5 5 v5 rfl rfl) h5
 have b5 : 0 ≤ a5 ∧ a5 < 256 := by have := w5; simp [Lit.wf, IntKind.min, IntKind.max, IntKind.signed, IntKind.bits] at this; omega
 clear hA0 hval0
 obtain ⟨n4, rfl⟩ : ∃ n : Nat, a4 = (n : Int) := ⟨a4.toNat, by omega⟩
 obtain ⟨n5, rfl⟩ : ∃ n : Nat, a5 = (n : Int) := ⟨a5.toNat, by omega⟩
 have hcall := P.packBends_calls LC.no _ _ _ s0 a1 s2 s3 n4 n5 W (LC.no_old W) hs0 hs2 hs3 us0 b1 us2 us3 (by omega) (by omega)
 refine hcall.mono fun e W' ⟨he, bel⟩ => ?_
 subst he
 exact ⟨_, rfl, _, _, _, [], _, [], hW', trodAll_mk1 (shut_bool Tryd.underlying4 _), (trodAll_cons_mk (Below.trod LC.laidOut (by kernel_rfl) (of_decide_eq_true (by kernel_rfl)) k0 bel lt0) (trodAll_cons_mk (shut_int Tryd.underlying5 w1) (trodAll_cons_mk (Below.trod LC.laidOut (by kernel_rfl) (of_decide_eq_true (by kernel_rfl)) k2 bel lt2) (trodAll_cons_mk (Below.trod LC.laidOut (by kernel_rfl) (of_decide_eq_true (by kernel_rfl)) k3 bel lt3) (trodAll_cons_mk (shut_int Tryd.underlying23 w4) (trodAll_cons_mk (shut_int Tryd.underlying5 w5) trodAll_mk0)))))), rfl, bel.frame _, fun h => by cases h⟩
theorem said : Rows.PackBendsSaid :=
 OpenClaim.holds_of_wide 4 Tryd.f4 rfl rfl rfl rfl rfl rfl rfl ⟨rfl, rfl, rfl, rfl, rfl⟩ rfl rfl rfl rfl rfl (by kernel_rfl) Tryd.func4 (by kernel_rfl)
  (of_decide_eq_true (by kernel_rfl)) (by unfold Func.isWrapper; first | (rw [if_pos (by decide +kernel)]; kernel_rfl) | (rw [if_neg (by decide +kernel)]; exact ⟨rfl, rfl⟩))
  (fun os started H enc _ => lifted os started H enc)
theorem plain (f : FuncId) (fn : Func) (hf : Tryd.pinned.checked.prog.funcNamed "glyphcutter/glyphcutterlaw15.PackBends" = some f) (hfn : Tryd.pinned.checked.prog.funcs[f]? = some fn) :
  Rows.packBendsCard.stood.looks = Tryd.pinned.checked.prog.looks [] ∧ ∀ (j : Nat) t, fn.params[j]? = some t → Tryd.pinned.checked.prog.wantsStandIn t = false := by
 obtain rfl : f = 4 := Option.some.inj ((show Tryd.prog.funcNamed "glyphcutter/glyphcutterlaw15.PackBends" = some 4 by kernel_rfl).symm.trans hf) |>.symm
 obtain rfl : fn = Tryd.f4 := (Option.some.inj (Tryd.func4.symm.trans hfn)).symm
 refine ⟨by kernel_rfl, fun j t ht => ?_⟩
 rw [Tryd.params4] at ht
 have hm : t ∈ [28, 5, 29, 29, 23, 5] := by simpa using Array.mem_of_getElem? ht
 have hall : ([28, 5, 29, 29, 23, 5].all fun u => !Tryd.prog.wantsStandIn u) = true := by kernel_rfl
 exact (show Tryd.prog.wantsStandIn t = false by simpa using List.all_eq_true.1 hall t hm)
theorem card : Rows.PackBendsCardSaid :=
 Claim7.holds_tied_plain_at .later [] _ _ _ _ said (fun _ h => by cases h) (by kernel_rfl) (fun _ h => by cases h) packBends_row_tie rfl ⟨rfl, rfl⟩ (by kernel_rfl) rfl plain (by kernel_rfl)
end Go.Proofs.YtplhfgobeicegaaDoor.packBends
namespace Go.Proofs.YtplhfgobeicegaaDoor
theorem packBends_card : Rows.PackBendsCardSaid := packBends.card
end Go.Proofs.YtplhfgobeicegaaDoor
