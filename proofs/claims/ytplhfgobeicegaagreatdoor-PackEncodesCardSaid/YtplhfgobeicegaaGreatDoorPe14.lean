/- Part 14 of the proof: V7, V12, VA, S03b. -/
import Derived.Test.YtplhfgobeicegaaGreatDoorPe13
namespace Go.Proofs.YtplhfgobeicegaaGreatDoor.P
open Go Go.RowKit Go.Proofs.YtplhfgobeicegaaGreatDoorW.PrintWords Go.Proofs.YtplhfgobeicegaaGreatDoorW.PrintLast Go.Proofs.YtplhfgobeicegaaGreatDoorW.PrintMore Go.Proofs.YtplhfgobeicegaaGreatDoor.PX
set_option linter.unusedVariables false
set_option linter.unusedSimpArgs false
set_option maxRecDepth 100000
set_option maxHeartbeats 4000000 in
theorem bequal_calls (X : Nat → Prop) (va vb : Value) (a b : List Int) (w : World) (ha : PV kU8 X w va a) (hb : PV kU8 X w vb b) (ua : U8s a) (ub : U8s b) :
  Calls Tryz.prog 34 #[va, vb] w fun e w' => e = .returned (.bool (decide (a = b))) ∧ w' = w := by
 have st1 := ha.str (P := Tryz.prog) Tryz.underlying24 Tryz.underlying5 Tryz.underlying9
 have st2 := hb.str (P := Tryz.prog) Tryz.underlying24 Tryz.underlying5 Tryz.underlying9
 have HI := aM (strOfNums_inj (a := a) (b := b) ua ub)
 obtain ⟨A0, c0, rfl, _, _⟩ := ha.now
 obtain ⟨A1, c1, rfl, _, _⟩ := hb.now
 generalize strOfNums a = sa at *
 generalize strOfNums b = sb at *
 clear ha hb ua ub
 rcases Decidable.em (a = b) with hc | hc
 case inl =>
  have hs : sa = sb := HI.out.2 hc
  rw [show decide (a = b) = true by simp [hc]]
  clear hc HI
  subst hs
  go_enter Tryz.func34, Tryz.ntmps34
  go_wp2_with fail
  go_ret
  exact ⟨rfl, rfl⟩
 case inr =>
  have hs : ¬ sa = sb := fun h => hc (HI.out.1 h)
  have hs2 : ¬ sa.toList = sb.toList := fun h => hs (ByteArray.ext (by rw [ByteArray.toList_eq, ByteArray.toList_eq] at h; exact Array.ext' h))
  have e1 : (sa.toList == sb.toList) = false := bF hs2
  rw [show decide (a = b) = false by simp [hc]]
  clear hc HI
  go_enter Tryz.func34, Tryz.ntmps34
  go_wp2_with fail
  go_ret
  exact ⟨rfl, rfl⟩
def hasPre (s p : List Int) : Bool := decide (p.length ≤ s.length) && decide (s.take p.length = p)
set_option maxHeartbeats 4000000 in
theorem hasPre_calls (X : Nat → Prop) (va vb : Value) (a b : List Int) (w : World) (ha : PV kU8 X w va a) (hb : PV kU8 X w vb b) (ua : U8s a) (ub : U8s b) :
  Calls Tryz.prog 27 #[va, vb] w fun e w' => e = .returned (.bool (hasPre a b)) ∧ w' = w := by
 have H0 := aM ha
 have H1 := aM hb
 have HUA := aM ua
 have HUB := aM ub
 obtain ⟨A0, c0, rfl, _, _⟩ := ha.now
 obtain ⟨A1, c1, rfl, _, _⟩ := hb.now
 have m0 := ha.max
 have m1 := hb.max
 clear ha hb ua ub
 rcases Nat.lt_or_ge a.length b.length with hl | hl
 case inl =>
  have d1 : decide ((a.length : Int) ≥ (b.length : Int)) = false := dF (by omega)
  have d2 : decide (b.length ≤ a.length) = false := dF (by omega)
  rw [show hasPre a b = false by unfold hasPre; rw [d2]; rfl]
  go_enter Tryz.func27, Tryz.ntmps27
  go_wp2_with fail
  go_ret
  exact ⟨rfl, rfl⟩
 case inr =>
  have d1 : decide ((a.length : Int) ≥ (b.length : Int)) = true := dT (by omega)
  have d2 : decide (b.length ≤ a.length) = true := dT hl
  obtain ⟨q, hq⟩ : ∃ q, q = decide (a.take b.length = b) := ⟨_, rfl⟩
  rw [show hasPre a b = q by unfold hasPre; rw [d2, hq]; rfl]
  have HQ := aM hq.symm
  obtain ⟨j0, hj0, _, hjz0, _⟩ := info_parts info5
  obtain ⟨u9, hu9, hrun9⟩ := H0.out.upto (P := Tryz.prog) 24 5 Tryz.underlying24 hj0 b.length hl
  have HU9 := aM hu9
  have HUT := aM (show U8s (a.take b.length) from fun x hx => HUA.out x (List.mem_of_mem_take hx))
  clear hq hu9 hj0 hjz0 hl
  go_enter Tryz.func27, Tryz.ntmps27
  go_wp2_with (first
   | (go_at_call 34; (with_reducible refine (bequal_calls _ _ _ (a.take b.length) b _ HU9.out H1.out HUT.out HUB.out).mono ?_); rintro ee w5 ⟨rfl, rfl⟩; rw [HQ.out]))
  go_ret
  exact ⟨rfl, rfl⟩
end Go.Proofs.YtplhfgobeicegaaGreatDoor.P
namespace Go.Proofs.YtplhfgobeicegaaGreatDoor.PX
open Go Go.RowKit Go.Proofs.YtplhfgobeicegaaGreatDoorW.PrintWords
section
variable {α : Type} {d : Kd α} {X : Nat → Prop} {w : World} {v : Value} {xs : List α}
theorem PV.mid {P : Program} (t E : TypeId) (ht : P.underlying t = some (.slice E)) {i : TypeInfo} (hi : P.info? E = some i) (hsz : i.size = d.sz) (h : PV d X w v xs) (m n : Nat) (hm : m ≤ n) (hn : n ≤ xs.length) :
  ∃ u, PV d X w u ((xs.take n).drop m) ∧ ∀ W : World, (Instr.slice t v (some (.int .i64 (m : Int))) (some (.int .i64 (n : Int))) none).run P W = .ok u W := by
 obtain ⟨A, c, rfl, hc, hC⟩ := h
 refine ⟨_, PV.drop (PV.take ⟨A, c, rfl, hc, hC⟩ n hn) m (by rw [List.length_take]; omega), fun W => ?_⟩
 have := cut_mid (P := P) t E .i64 .i64 ht hi d.sz hsz A xs.length c (m : Int) (n : Int) (by omega) (by omega) (by omega) hc W
 simpa [List.length_drop, List.length_take, Nat.min_eq_left hn] using this
end
end Go.Proofs.YtplhfgobeicegaaGreatDoor.PX
namespace Go.Proofs.YtplhfgobeicegaaGreatDoor.P
open Go Go.RowKit Go.Proofs.YtplhfgobeicegaaGreatDoorW.PrintWords Go.Proofs.YtplhfgobeicegaaGreatDoor.PX
set_option linter.unusedVariables false
set_option linter.unusedSimpArgs false
theorem rowR_len (read : Rd → Int × Rd) (many : Nat) : ∀ (f : Nat) (l : List Int) (r : Rd), l.length ≤ many → (rowR read many f l r).1.length ≤ many
 | 0, l, r, h => h
 | f + 1, l, r, h => by
  rw [rowR]
  split
  ·split
   ·simp
   ·next h1 h2 =>
    refine rowR_len read many f _ _ ?_
    rw [lA, List.length_replicate]
    omega
  ·exact h
theorem rowR_good (G : Int → Prop) (read : Rd → Int × Rd) (hg : ∀ r : Rd, U8s r.b → G (read r).1 ∧ U8s (read r).2.b) (many : Nat) : ∀ (f : Nat) (l : List Int) (r : Rd), (∀ x ∈ l, G x) → U8s r.b → (∀ x ∈ (rowR read many f l r).1, G x) ∧ U8s (rowR read many f l r).2.b
 | 0, l, r, h, hu => ⟨h, hu⟩
 | f + 1, l, r, h, hu => by
  have h1 : U8s (oneR r).2.b := (takeR_u8 1 hu).2
  rw [rowR]
  split
  ·split
   ·exact ⟨fun x hx => (by cases hx), h1⟩
   ·refine rowR_good G read hg many f _ _ (fun x hx => ?_) (hg _ h1).2
    rcases List.mem_append.1 hx with hx | hx
    ·exact h x hx
    ·rw [List.eq_of_mem_replicate hx]; exact (hg _ h1).1
  ·exact ⟨h, hu⟩
theorem oneR_in {r : Rd} (hu : U8s r.b) : 0 ≤ (oneR r).1 ∧ (oneR r).1 < 256 := by
 obtain ⟨p0, hp0, hp1⟩ := u8s_at (takeR_u8 1 hu).1 0 (by rw [takeR_len]; decide)
 unfold oneR
 dsimp only
 rw [hp0]
 omega
theorem rowR_u8 (many f : Nat) {r : Rd} (hu : U8s r.b) : U8s (rowR oneR many f [] r).1 ∧ U8s (rowR oneR many f [] r).2.b :=
 rowR_good (fun x => 0 ≤ x ∧ x < 256) oneR (fun r hr => ⟨oneR_in hr, (takeR_u8 1 hr).2⟩) many f [] r (fun x hx => by cases hx) hu
theorem rowR_i (many f : Nat) {r : Rd} (hu : U8s r.b) : U8s (rowR twoM many f [] r).2.b :=
 (rowR_good (fun _ => True) twoM (fun r hr => ⟨trivial, (takeR_u8 2 hr).2⟩) many f [] r (fun x hx => trivial) hu).2
def statesR (k : Nat) : Nat → List (List Int) → List Int → Rd → List (List Int) × List Int × Rd
 | 0, N, T, r => (N, T, r)
 | m + 1, N, T, r => if (rowR twoM k k [] (twoM r).2).2.short = true then (N ++ [(rowR twoM k k [] (twoM r).2).1], T ++ [(twoM r).1], (rowR twoM k k [] (twoM r).2).2)
  else statesR k m (N ++ [(rowR twoM k k [] (twoM r).2).1]) (T ++ [(twoM r).1]) (rowR twoM k k [] (twoM r).2).2
def noTable : (List Int × List (List Int) × List Int) × Int := (([], [], []), 70)
def decEnd (b cl : List Int) (s : List (List Int) × List Int × Rd) : (List Int × List (List Int) × List Int) × Int :=
 if s.2.2.short = false ∧ (encR cl s.1 s.2.1).2 = 0 ∧ (encR cl s.1 s.2.1).1 = b then ((cl, s.1, s.2.1), 0) else noTable
def decMid (b : List Int) (many : Nat) (c : List Int × Rd) : (List Int × List (List Int) × List Int) × Int :=
 if c.1.length = 0 then noTable else decEnd b c.1 (statesR ((maxF c.1).toNat + 1) many [] [] c.2)
def startR (b : List Int) : Rd := ⟨(b.take (b.length - 4)).drop 3, false⟩
def decF (b : List Int) : (List Int × List (List Int) × List Int) × Int :=
 if 9 ≤ b.length ∧ hasPre b [71, 67, 1] = true then decMid b (twoR (startR b)).1.toNat (rowR oneR 256 256 [] (twoR (startR b)).2) else noTable
theorem startR_u8 {b : List Int} (h : U8s b) : U8s (startR b).b := fun x hx => h x (List.mem_of_mem_take (List.mem_of_mem_drop hx))
theorem maxF_in {c : List Int} (h : U8s c) (h1 : 1 ≤ c.length) : 0 ≤ maxF c ∧ maxF c < 256 := by
 have h2 := (maxF_le c 255 h1).2 (fun x hx => by have := h x hx; omega)
 have h3 := (maxF_le c (maxF c) h1).1 (Int.le_refl _)
 have h4 := h3 (c.getD 0 0) (mem_getD c 0 0 (by omega))
 have h5 := h _ (mem_getD c 0 0 (by omega))
 omega
theorem decF_enc {b : List Int} (h : (decF b).2 = 0) : encR (decF b).1.1 (decF b).1.2.1 (decF b).1.2.2 = (b, 0) := by
 unfold decF decMid decEnd at h ⊢
 split at h
 next h1 =>
  rw [if_pos h1]
  split at h
  next h2 => cases h
  next h2 =>
   rw [if_neg h2]
   split at h
   next h3 =>
    rw [if_pos h3]
    dsimp only
    exact Prod.ext h3.2.2 h3.2.1
   next h3 => cases h
 next h1 => cases h
theorem decF_not {b : List Int} (h : (decF b).2 ≠ 0) : decF b = noTable := by
 unfold decF decMid decEnd at h ⊢
 split at h
 next h1 =>
  rw [if_pos h1]
  split at h
  next h2 => rw [if_pos h2]
  next h2 =>
   rw [if_neg h2]
   split at h
   next h3 => exact absurd rfl h
   next h3 => rw [if_neg h3]
 next h1 => rw [if_neg h1]
end Go.Proofs.YtplhfgobeicegaaGreatDoor.P
namespace Go.Proofs.YtplhfgobeicegaaGreatDoor.P
open Go Go.RowKit Go.Proofs.YtplhfgobeicegaaGreatDoorW.PrintWords Go.Proofs.YtplhfgobeicegaaGreatDoor.PX
set_option linter.unusedVariables false
set_option linter.unusedSimpArgs false
theorem takeR_app (a rest : List Int) (s : Bool) (n : Nat) (hn : a.length = n) : takeR n ⟨a ++ rest, s⟩ = (a, ⟨rest, s⟩) := by
 subst hn
 unfold takeR
 rw [if_neg (by rw [lA]; omega)]
 simp
theorem twoR_app {x : Int} (h : 0 ≤ x ∧ x < 65536) (rest : List Int) (s : Bool) : twoR ⟨two15 x ++ rest, s⟩ = (x, ⟨rest, s⟩) := by
 unfold twoR
 rw [takeR_app (two15 x) rest s 2 rfl]
 dsimp only
 refine Prod.ext ?_ rfl
 show x / 256 % 256 * 256 + x % 256 = x
 omega
theorem twoM_app {x : Int} (h : -1 ≤ x ∧ x < 65535) (rest : List Int) (s : Bool) : twoM ⟨two15 (x + 1) ++ rest, s⟩ = (x, ⟨rest, s⟩) := by
 unfold twoM
 rw [twoR_app (x := x + 1) (by omega)]
 refine Prod.ext ?_ rfl
 show x + 1 - 1 = x
 omega
theorem oneR_app (x : Int) (rest : List Int) (s : Bool) : oneR ⟨x :: rest, s⟩ = (x, ⟨rest, s⟩) := by
 unfold oneR
 rw [show x :: rest = [x] ++ rest from rfl, takeR_app [x] rest s 1 rfl]
 rfl
theorem lead_take (x : Int) : ∀ (f : Nat) (t : List Int), t.take (lead x f t) = List.replicate (lead x f t) x
 | 0, t => by rw [lead_0]; rfl
 | f + 1, [] => by rw [lead_nil]; rfl
 | f + 1, y :: t => by
  rw [lead]
  split
  ·next h => subst h; rw [List.take_succ_cons, List.replicate_succ, lead_take y f t]
  ·rfl
theorem rowR_runs (read : Rd → Int × Rd) (lay : Int → List Int) (good : Int → Prop) (hr : ∀ x, good x → ∀ rest s, read ⟨lay x ++ rest, s⟩ = (x, ⟨rest, s⟩)) (many : Nat) (rest : List Int) :
  ∀ (f g : Nat) (l t : List Int), l.length + t.length = many → t.length ≤ f → t.length ≤ g → (∀ x ∈ t, good x) → rowR read many f l ⟨runsF lay g t ++ rest, false⟩ = (l ++ t, ⟨rest, false⟩)
 | 0, g, l, t, hm, hf, hg, ht => by
  obtain rfl : t = [] := List.eq_nil_of_length_eq_zero (by omega)
  rw [runsF_nil, rowR, List.append_nil]; rfl
 | f + 1, g, l, [], hm, hf, hg, ht => by
  rw [runsF_nil, rowR, if_neg (by rintro ⟨h, _⟩; rw [List.length_nil] at hm; omega), List.append_nil]; rfl
 | f + 1, 0, l, x :: t, hm, hf, hg, ht => by rw [List.length_cons] at hg; omega
 | f + 1, g + 1, l, x :: t, hm, hf, hg, ht => by
  rw [List.length_cons] at hm hf hg
  have hl := (lead_le x 254 t).2
  have ht2 := lead_take x 254 t
  have ih := fun l2 h => rowR_runs read lay good hr many rest f g l2 (t.drop (lead x 254 t)) h (by rw [List.length_drop]; omega) (by rw [List.length_drop]; omega) (fun y hy => ht y (List.mem_cons_of_mem _ (List.mem_of_mem_drop hy)))
  rw [runsF, rowR]
  generalize lead x 254 t = n at *
  rw [if_pos ⟨by omega, rfl⟩, List.cons_append, oneR_app]
  dsimp only
  rw [if_neg (by omega), List.append_assoc, hr x (ht x List.mem_cons_self)]
  dsimp only
  rw [Int.toNat_natCast, ih _ (by rw [lA, List.length_replicate, List.length_drop]; omega), List.append_assoc]
  refine Prod.ext ?_ rfl
  show l ++ (List.replicate (n + 1) x ++ t.drop n) = l ++ x :: t
  rw [List.replicate_succ, List.cons_append, ← ht2, List.take_append_drop]
theorem states_rows (k : Nat) (rest : List Int) : ∀ (N : List (List Int)) (T : List Int) (N0 : List (List Int)) (T0 : List Int), N.length = T.length → (∀ row ∈ N, row.length = k ∧ ∀ x ∈ row, -1 ≤ x ∧ x < 65535) → (∀ x ∈ T, -1 ≤ x ∧ x < 65535) →
  statesR k T.length N0 T0 ⟨rowsE N T ++ rest, false⟩ = (N0 ++ N, T0 ++ T, ⟨rest, false⟩)
 | [], [], N0, T0, _, _, _ => by simp [statesR, rowsE]
 | [], _ :: _, N0, T0, h, _, _ => by cases h
 | _ :: _, [], N0, T0, h, _, _ => by cases h
 | row :: N, x :: T, N0, T0, h, hN, hT => by
  rw [List.length_cons, statesR, rowsE]
  rw [show (x :: T).getD 0 0 = x from rfl, show (x :: T).drop 1 = T from rfl, List.append_assoc, List.append_assoc, twoM_app (hT x List.mem_cons_self)]
  dsimp only
  have hrow := hN row List.mem_cons_self
  rw [rowR_runs twoM (fun x => two15 (x + 1)) (fun x => -1 ≤ x ∧ x < 65535) (fun y hy rest s => twoM_app hy rest s) k (rowsE N T ++ rest) k row.length [] row (by simp [hrow.1]) (by omega) (Nat.le_refl _) hrow.2]
  dsimp only
  rw [if_neg (by simp), states_rows k rest N T _ _ (by rw [List.length_cons, List.length_cons] at h; omega) (fun r hr => hN r (List.mem_cons_of_mem _ hr)) (fun y hy => hT y (List.mem_cons_of_mem _ hy))]
  simp
theorem manyGo_max : ∀ (l : List Int) (n : Int), manyGo l n ≠ -1 → manyGo l n = n ∨ ∃ c ∈ l, manyGo l n = c + 1
 | [], n, _ => .inl rfl
 | c :: t, n, h => by
  rw [manyGo] at h ⊢
  by_cases h2 : c > n
  ·rw [if_pos h2] at h; exact absurd rfl h
  ·rw [if_neg h2] at h ⊢
   rcases manyGo_max t _ h with h3 | ⟨c2, h3, h4⟩
   ·rw [h3]
    rcases Int.le_total n (c + 1) with h5 | h5
    ·exact .inr ⟨c, List.mem_cons_self, by omega⟩
    ·exact .inl (by omega)
   ·exact .inr ⟨c2, List.mem_cons_of_mem _ h3, h4⟩
theorem many_max {cl : List Int} {n : Nat} (h : many14 cl = (n : Int)) (h0 : n ≠ 0) : maxF cl + 1 = (n : Int) := by
 obtain ⟨h1, h2⟩ := many14_all h h0
 unfold many14 at h
 by_cases h3 : manyGo cl 0 = -1 ∨ cl.length ≠ 256
 ·rw [if_pos h3] at h; omega
 ·rw [if_neg h3] at h
  have h4 := (maxF_le cl ((n : Int) - 1) (by omega)).2 (fun x hx => by have := h2 x hx; omega)
  rcases manyGo_max cl 0 (fun e => h3 (.inl e)) with h5 | ⟨c, h5, h6⟩
  ·omega
  ·have h7 := (maxF_le cl (maxF cl) (by omega)).1 (Int.le_refl _) c h5
   omega
def readB (s : List Int) : List Int × List (List Int) × List Int × Rd :=
 ((rowR oneR 256 256 [] (twoR ⟨s.drop 3, false⟩).2).1, statesR ((maxF (rowR oneR 256 256 [] (twoR ⟨s.drop 3, false⟩).2).1).toNat + 1) (twoR ⟨s.drop 3, false⟩).1.toNat [] [] (rowR oneR 256 256 [] (twoR ⟨s.drop 3, false⟩).2).2)
theorem mem_all_at {α : Type} {l : List α} {d : α} {q : α → Prop} {n : Nat} (hl : l.length = n) (h : ∀ i, i < n → q (l.getD i d)) : ∀ x ∈ l, q x := fun x hx => by
 obtain ⟨i, hi, rfl⟩ := List.getElem_of_mem hx
 have := h i (by omega)
 rwa [List.getD_eq_getElem?_getD, List.getElem?_eq_getElem hi, Option.getD_some] at this
structure EncFact (C : List Int) (N : List (List Int)) (T : List Int) : Prop where
 len : C.length = 256
 u8 : U8s C
 rows : N.length = T.length
 pos : 1 ≤ T.length
 le : T.length ≤ 40000
 row : ∀ row ∈ N, row.length = (maxF C).toNat + 1 ∧ ∀ x ∈ row, -1 ≤ x ∧ x < 65535
 tag : ∀ x ∈ T, -1 ≤ x ∧ x < 65535
theorem enc_fact {C : List Int} {N : List (List Int)} {T : List Int} (hu : U8s C) (h : EncOk C N T) : EncFact C N T := by
 obtain ⟨n, h1, h2, h3, h4, h5, h6, h7⟩ := tsound_head hu h.1
 have hm := many_max h1 h5.1
 have h5' := h5
 unfold THead at h5
 refine ⟨h3, hu, by omega, by omega, by omega, mem_all_at (d := []) (n := T.length) (by omega) (fun i hi => ?_), fun x hx => ?_⟩
 ·have h8 := h6 i hi
  unfold TRow at h8
  refine ⟨by omega, mem_all_at (d := 0) h8.1 (fun j hj => ?_)⟩
  have := h8.2.2 j hj
  omega
 ·have h8 := (maxF_le T 65534 (by omega)).1 h.2 x hx
  have h9 := mem_all_at (d := 0) (q := fun x => -1 ≤ x) rfl (fun i hi => (h6 i hi).2.1) x hx
  have h10 : -1 ≤ x := h9
  omega
theorem bodyE_head (C : List Int) (N : List (List Int)) (T : List Int) (rest : List Int) : bodyE C N T ++ rest = [71, 67, 1] ++ (two15 (T.length : Int) ++ (runsF (fun x => [x]) C.length C ++ (rowsE N T ++ rest))) := by
 unfold bodyE headE
 simp only [List.append_assoc]
theorem readB_enc {C : List Int} {N : List (List Int)} {T : List Int} (hu : U8s C) (h : EncOk C N T) (rest : List Int) : readB (bodyE C N T ++ rest) = (C, N, T, ⟨rest, false⟩) := by
 have hf := enc_fact hu h
 have e1 : (bodyE C N T ++ rest).drop 3 = two15 (T.length : Int) ++ (runsF (fun x => [x]) C.length C ++ (rowsE N T ++ rest)) := by
  rw [bodyE_head]; rfl
 have hle := hf.le
 have e2 : twoR ⟨(bodyE C N T ++ rest).drop 3, false⟩ = ((T.length : Int), ⟨runsF (fun x => [x]) C.length C ++ (rowsE N T ++ rest), false⟩) := by
  rw [e1, twoR_app (by omega)]
 have e3 : rowR oneR 256 256 [] ⟨runsF (fun x => [x]) C.length C ++ (rowsE N T ++ rest), false⟩ = (C, ⟨rowsE N T ++ rest, false⟩) := by
  have := rowR_runs oneR (fun x => [x]) (fun _ => True) (fun x _ rest s => oneR_app x rest s) 256 (rowsE N T ++ rest) 256 C.length [] C (by simp [hf.len]) (by rw [hf.len]; exact Nat.le_refl _) (Nat.le_refl _) (fun _ _ => trivial)
  rw [this]; rfl
 have e4 := states_rows ((maxF C).toNat + 1) rest N T [] [] hf.rows hf.row hf.tag
 unfold readB
 rw [e2]
 dsimp only
 rw [e3]
 dsimp only
 rw [Int.toNat_natCast, e4]
 rfl
theorem body_uniq {C C2 : List Int} {N N2 : List (List Int)} {T T2 : List Int} (hu : U8s C) (h : EncOk C N T) (hu2 : U8s C2) (h2 : EncOk C2 N2 T2) (z : List Int) (e : bodyE C2 N2 T2 = bodyE C N T ++ z) : (C2, N2, T2) = (C, N, T) ∧ z = [] := by
 have r1 := readB_enc hu h z
 have r2 := readB_enc hu2 h2 []
 rw [List.append_nil, e, r1] at r2
 injection r2 with a b
 injection b with b c
 injection c with c d
 injection d with d _
 exact ⟨by rw [a, b, c], d⟩
theorem sealE_len (b : List Int) : (sealE b).length = b.length + 4 := by unfold sealE two15; simp
theorem sealE_take (b : List Int) : (sealE b).take b.length = b := by
 unfold sealE
 rw [List.append_assoc, List.take_left]
theorem bodyE_len (C : List Int) (N : List (List Int)) (T : List Int) : 5 ≤ (bodyE C N T).length := by
 have := bodyE_head C N T []
 rw [List.append_nil] at this
 rw [this]
 unfold two15
 simp only [lA, List.length_cons, List.length_nil]
 omega
theorem encR_pos {C : List Int} {N : List (List Int)} {T : List Int} (h : EncOk C N T) : encR C N T = (sealE (bodyE C N T), 0) := by unfold encR; rw [if_pos h]
theorem encR_inv {C : List Int} {N : List (List Int)} {T : List Int} (h : (encR C N T).2 = 0) : EncOk C N T := by
 unfold encR at h
 split at h
 ·assumption
 ·cases h
theorem dec_enc {C : List Int} {N : List (List Int)} {T : List Int} (hu : U8s C) (h : EncOk C N T) : decF (sealE (bodyE C N T)) = ((C, N, T), 0) := by
 have hf := enc_fact hu h
 have hl := bodyE_len C N T
 have hr := readB_enc hu h []
 rw [List.append_nil] at hr
 have e1 : startR (sealE (bodyE C N T)) = ⟨(bodyE C N T).drop 3, false⟩ := by
  unfold startR
  rw [sealE_len, Nat.add_sub_cancel, sealE_take]
 unfold readB at hr
 injection hr with r1 r2
 rw [r1] at r2
 have hp : hasPre (sealE (bodyE C N T)) [71, 67, 1] = true := by
  unfold hasPre
  rw [dT (by rw [sealE_len]; simp only [List.length_cons, List.length_nil]; omega), Bool.true_and]
  refine dT ?_
  unfold sealE
  rw [List.append_assoc, bodyE_head]
  rfl
 unfold decF
 rw [if_pos ⟨by rw [sealE_len]; omega, hp⟩, e1]
 unfold decMid
 rw [r1, if_neg (by rw [hf.len]; omega), r2]
 unfold decEnd
 rw [encR_pos h, if_pos ⟨rfl, rfl, rfl⟩]
theorem rowR_cl (b : List Int) : (decF b).1.1 = [] ∨ (decF b).1.1 = (rowR oneR 256 256 [] (twoR (startR b)).2).1 := by
 unfold decF decMid decEnd
 split
 ·split
  ·exact .inl rfl
  ·split
   ·exact .inr rfl
   ·exact .inl rfl
 ·exact .inl rfl
theorem decF_u8s {b : List Int} (h : U8s b) : U8s (decF b).1.1 := by
 rcases rowR_cl b with e | e
 ·rw [e]; exact fun _ h => by cases h
 ·rw [e]; exact (rowR_u8 256 256 (r := (twoR (startR b)).2) (takeR_u8 2 (startR_u8 h)).2).1
theorem dec_form {b : List Int} (hb : U8s b) (h : (decF b).2 = 0) : ∃ C N T, decF b = ((C, N, T), 0) ∧ U8s C ∧ EncOk C N T ∧ b = sealE (bodyE C N T) := by
 have h1 := decF_enc h
 have hu := decF_u8s hb
 obtain ⟨⟨⟨C, N, T⟩, e⟩, hd⟩ : ∃ p, p = decF b := ⟨_, rfl⟩
 rw [← hd] at h h1 hu
 dsimp only at h h1 hu
 subst h
 have hok := encR_inv (C := C) (N := N) (T := T) (by rw [h1])
 rw [encR_pos hok] at h1
 injection h1 with h1 _
 exact ⟨C, N, T, hd.symm, hu, hok, h1.symm⟩
theorem dec_iff {b : List Int} (hb : U8s b) {C : List Int} {N : List (List Int)} {T : List Int} (hu : U8s C) (h : EncOk C N T) (e : b = sealE (bodyE C N T)) : decF b = ((C, N, T), 0) := by rw [e]; exact dec_enc hu h
theorem sealE_app (b : List Int) : ∃ s, s.length = 4 ∧ sealE b = b ++ s := ⟨two15 ((sumL b / 65536 : Nat) : Int) ++ two15 ((sumL b % 65536 : Nat) : Int), rfl, by unfold sealE; rw [List.append_assoc]⟩
theorem dec_long {C : List Int} {N : List (List Int)} {T : List Int} (hu : U8s C) (h : EncOk C N T) {m : Int} (hm : 0 ≤ m ∧ m < 256) : decF (sealE (bodyE C N T) ++ [m]) = noTable := by
 have hub : U8s (sealE (bodyE C N T) ++ [m]) := U8s.app (sealE_u8 (U8s.app (headE_u8 hu T) (rowsE_u8 N T))) (fun c hc => by obtain rfl := List.mem_singleton.1 hc; exact hm)
 refine decF_not (fun h0 => ?_)
 obtain ⟨C2, N2, T2, _, hu2, h2, e⟩ := dec_form hub h0
 have hl := congrArg List.length e
 rw [lA, sealE_len, sealE_len, lS] at hl
 obtain ⟨s, hs, e1⟩ := sealE_app (bodyE C N T)
 have e2 := congrArg (List.take (bodyE C2 N2 T2).length) e
 rw [sealE_take, e1, List.append_assoc, List.take_append] at e2
 have e3 : (bodyE C N T).take (bodyE C2 N2 T2).length = bodyE C N T := List.take_of_length_le (by omega)
 rw [e3] at e2
 have h3 := (body_uniq hu h hu2 h2 _ e2.symm).2
 have h4 := congrArg List.length h3
 rw [List.length_take, lA, lS, List.length_nil] at h4
 omega
theorem dec_short {C : List Int} {N : List (List Int)} {T : List Int} (hu : U8s C) (h : EncOk C N T) : decF ((sealE (bodyE C N T)).take ((sealE (bodyE C N T)).length - 1)) = noTable := by
 have hub0 : U8s (sealE (bodyE C N T)) := sealE_u8 (U8s.app (headE_u8 hu T) (rowsE_u8 N T))
 have hub : U8s ((sealE (bodyE C N T)).take ((sealE (bodyE C N T)).length - 1)) := fun c hc => hub0 c (List.mem_of_mem_take hc)
 refine decF_not (fun h0 => ?_)
 obtain ⟨C2, N2, T2, _, hu2, h2, e⟩ := dec_form hub h0
 have hl := congrArg List.length e
 rw [List.length_take, sealE_len, sealE_len] at hl
 have e2 := congrArg (List.take (bodyE C2 N2 T2).length) e
 rw [sealE_take, List.take_take, sealE_len] at e2
 have e3 : bodyE C N T = bodyE C2 N2 T2 ++ (bodyE C N T).drop (bodyE C2 N2 T2).length := by
  have e4 := List.take_append_drop (bodyE C2 N2 T2).length (bodyE C N T)
  have e5 : (bodyE C N T).take (bodyE C2 N2 T2).length = bodyE C2 N2 T2 := by
   refine Eq.trans ?_ e2
   obtain ⟨s, hs, e1⟩ := sealE_app (bodyE C N T)
   rw [e1, List.take_append_of_le_length (by omega)]
   congr 1
   omega
  rw [e5] at e4
  exact e4.symm
 have h3 := (body_uniq hu2 h2 hu h _ e3).2
 have h4 := congrArg List.length h3
 rw [List.length_drop, List.length_nil] at h4
 omega
end Go.Proofs.YtplhfgobeicegaaGreatDoor.P
namespace Go.Proofs.YtplhfgobeicegaaGreatDoor.P
open Go Go.RowKit Go.Proofs.YtplhfgobeicegaaGreatDoorW.PrintWords Go.Proofs.YtplhfgobeicegaaGreatDoorW.PrintLast Go.Proofs.YtplhfgobeicegaaGreatDoorW.PrintMore Go.Proofs.YtplhfgobeicegaaGreatDoor.PX
set_option linter.unusedVariables false
set_option linter.unusedSimpArgs false
set_option maxRecDepth 100000
abbrev Rg := S143
abbrev kRg := k143
abbrev kRgs : Kd (List Rg) := Kd.slice 143 kRg
def cutAt (a b : Int) : Nat → Int → Option Int
 | 0, _ => none
 | r + 1, m => if a / (m * 64) = b / (m * 64) then cutAt a b r (m * 64) else if a % (m * 64) ≠ 0 then some (a - a % (m * 64) + m * 64) else if b % (m * 64) ≠ m * 64 - 1 then some (b - b % (m * 64)) else cutAt a b r (m * 64)
def rowOf (a b : Int) (n : Nat) : List Rg := (List.range n).map (fun i => (⟨(encL a).getD i 0, (encL b).getD i 0⟩ : Rg))
def cutF : Nat → Int → Int → Nat → List (List Rg)
 | 0, _, _, _ => []
 | f + 1, a, b, n => match cutAt a b (n - 1) 1 with
  | none => [rowOf a b n]
  | some x => cutF f a (x - 1) n ++ cutF f x b n
def CutOk (a b : Int) (n : Nat) : Prop := 0 ≤ a ∧ a ≤ b ∧ b ≤ 1114111 ∧ (b < 55296 ∨ 57343 < a) ∧ ((n = 1 ∧ b < 128) ∨ (n = 2 ∧ 128 ≤ a ∧ b < 2048) ∨ (n = 3 ∧ 2048 ≤ a ∧ b < 65536) ∨ (n = 4 ∧ 65536 ≤ a))
theorem cutAt_in (a b : Int) (h0 : 0 ≤ a) (h : a ≤ b) : ∀ (r : Nat) (m x : Int), 0 < m → cutAt a b r m = some x → a < x ∧ x ≤ b
 | 0, m, x, hm, hc => by cases hc
 | r + 1, m, x, hm, hc => by
  unfold cutAt at hc
  have hm2 : 0 < m * 64 := by omega
  generalize m * 64 = M at *
  have ha := Int.emod_add_mul_ediv a M
  have hb := Int.emod_add_mul_ediv b M
  have ha1 := Int.emod_nonneg a (show M ≠ 0 by omega)
  have hb1 := Int.emod_nonneg b (show M ≠ 0 by omega)
  have ha2 := Int.emod_lt_of_pos a hm2
  have hb2 := Int.emod_lt_of_pos b hm2
  have hle := Int.ediv_le_ediv hm2 h
  split at hc
  ·exact cutAt_in a b h0 h r M x hm2 hc
  ·next c =>
   have hlt : a / M + 1 ≤ b / M := by omega
   have hmul : M * (a / M + 1) ≤ M * (b / M) := Int.mul_le_mul_of_nonneg_left hlt (by omega)
   rw [Int.mul_add, Int.mul_one] at hmul
   split at hc
   ·obtain rfl := Option.some.inj hc
    omega
   ·split at hc
    ·obtain rfl := Option.some.inj hc
     omega
    ·exact cutAt_in a b h0 h r M x hm2 hc
theorem CutOk.left {a b x : Int} {n : Nat} (h : CutOk a b n) (hx : a < x ∧ x ≤ b) : CutOk a (x - 1) n := by unfold CutOk at *; omega
theorem CutOk.right {a b x : Int} {n : Nat} (h : CutOk a b n) (hx : a < x ∧ x ≤ b) : CutOk x b n := by unfold CutOk at *; omega
theorem cutF_len : ∀ (f : Nat) (a b : Int) (n : Nat), CutOk a b n → ((cutF f a b n).length : Int) ≤ b - a + 1
 | 0, a, b, n, h => by unfold CutOk at h; simp [cutF]; omega
 | f + 1, a, b, n, h => by
  unfold cutF
  split
  ·unfold CutOk at h; simp; omega
  ·next x hx =>
   have hx2 := cutAt_in a b h.1 h.2.1 _ _ _ (by decide) hx
   have h1 := cutF_len f a (x - 1) n (h.left hx2)
   have h2 := cutF_len f x b n (h.right hx2)
   rw [lA]
   omega
theorem enc_len {a b : Int} {n : Nat} (h : CutOk a b n) : (encL a).length = n ∧ (encL b).length = n := by
 unfold CutOk at h
 unfold encL
 rcases h with ⟨h0, h1, h2, h3, ⟨rfl, h4⟩ | ⟨rfl, h4, h5⟩ | ⟨rfl, h4, h5⟩ | ⟨rfl, h4⟩⟩
 ·rw [if_pos (by omega), if_pos (by omega)]; exact ⟨rfl, rfl⟩
 ·rw [if_neg (by omega), if_pos (by omega), if_neg (by omega), if_pos (by omega)]; exact ⟨rfl, rfl⟩
 ·rw [if_neg (by omega), if_neg (by omega), if_pos (by omega), if_neg (by omega), if_neg (by omega), if_pos (by omega)]; exact ⟨rfl, rfl⟩
 ·rw [if_neg (by omega), if_neg (by omega), if_neg (by omega), if_neg (by omega), if_neg (by omega), if_neg (by omega)]; exact ⟨rfl, rfl⟩
def CutC (f : Nat) : Prop := ∀ (X : Nat → Prop) (a b : Int) (n : Nat) (w : World), (∀ k, X k → k < w.heap.size) → CutOk a b n → b - a < (f : Int) →
  Calls Tryz.prog 84 #[.int .i64 a, .int .i64 b, .int .i64 (n : Int)] w fun e w' => ∃ v, e = .returned v ∧ Own kRgs 139 (Xp X v) w' w.heap.size v (cutF f a b n) ∧ Below w.heap.size w w'
set_option maxHeartbeats 4000000 in
theorem both_calls (f : Nat) (ih : CutC f) (X : Nat → Prop) (a x b : Int) (n : Nat) (w : World) (hX : ∀ k, X k → k < w.heap.size) (h1 : CutOk a (x - 1) n) (h2 : CutOk x b n) (l1 : x - 1 - a < (f : Int)) (l2 : b - x < (f : Int)) :
  Calls Tryz.prog 93 #[.int .i64 a, .int .i64 x, .int .i64 b, .int .i64 (n : Int)] w fun e w' => ∃ v, e = .returned v ∧ Own kRgs 139 (Xp X v) w' w.heap.size v (cutF f a (x - 1) n ++ cutF f x b n) ∧ Below w.heap.size w w' := by
 have HS := aM (Sep.start hX)
 have HA := aM (show CutOk a (x - 1) n ∧ CutOk x b n ∧ x - 1 - a < (f : Int) ∧ b - x < (f : Int) from ⟨h1, h2, l1, l2⟩)
 have HL := aM (show (cutF f a (x - 1) n).length + (cutF f x b n).length ≤ 2000000 by have := cutF_len f _ _ _ h1; have := cutF_len f _ _ _ h2; unfold CutOk at h1 h2; omega)
 have hx0 : 0 ≤ x := h2.1
 have hx1 : x ≤ 1114111 := by unfold CutOk at h2; omega
 unfold CutC at ih
 have IH := aM ih
 clear hX h1 h2 l1 l2 ih
 go_enter Tryz.func93, Tryz.ntmps93
 go_wp2_with (first
  | ((go_at_call 84; (with_reducible refine (IH.out _ a (x - 1) n _ HS.out.lt HA.out.1 HA.out.2.2.1).mono ?_)); rintro e w5 ⟨v5, rfl, hv, hb⟩; have hs := HS.out.push_row hb hv; clear HS hv hb; have HS := aM hs; clear hs)
  | ((go_at_call 84; (with_reducible refine (IH.out _ x b n _ HS.out.lt HA.out.2.1 HA.out.2.2.2).mono ?_)); rintro e w6 ⟨v6, rfl, hv, hb⟩; have hs := (HS.out.push_row hb hv).sealRo 1 rfl; clear HS hv hb; have HS := aM hs; clear hs)
  | ((with_reducible refine gate_builtin (b := .append) (xs := #[.tmp 20, .tmp 21]) rfl ?_); at_builtin; refine sgrow kRgs 0 rfl (.tmp 20) (.tmp 21) 111 139 (.slice none 0 0) 24 rfl Tryz.underlying111 info139 rfl (by decide) (by omega) _ _ (cutF f a (x - 1) n) (cutF f x b n) rfl rfl HS.out rfl (HS.out.ro 1 rfl) (by have := HL.out; omega) ?_; clear HS; intro v7 w7 hs; have HS := aM hs; clear hs))
 go_ret
 exact ⟨_, rfl, HS.out.res_own 0 rfl, HS.out.below⟩
theorem rg_rep (X : Nat → Prop) (w : World) (x y : Int) : Reps (PK kRg X w) (kRg).sz [(⟨x, y⟩ : Rg)] [.int .u8 x, .int .u8 y] :=
 (Reps.none _ _).snoc (c := [.int .u8 x, .int .u8 y]) (fun _ _ => k143_mk _ (⟨x, y⟩ : Rg)) rfl
theorem ro_cellk {k : IntKind} {X : Nat → Prop} {w0 w : World} {L : List PX.Item} {a : Addr} {c : Nat} {xs : List Int} {x : Int} (h : PX.Sep X w0 w L) (n : Nat) (hn : L[n]? = some (.ro (Kd.int k) (.slice (some a) xs.length c) xs)) (i : Nat) (hi : i < xs.length) (hx : xs.getD i 0 = x) : w.cell? (a.add i) = some (.int k x) := by
 obtain ⟨a', c', e, y⟩ := intk_cell (h.ro n hn) i hi
 cases e
 rw [← hx]; exact y
theorem row_step (a b : Int) (i : Nat) : rowOf a b i ++ [(⟨(encL a).getD i 0, (encL b).getD i 0⟩ : Rg)] = rowOf a b (i + 1) := by
 unfold rowOf
 rw [List.range_succ, List.map_append]; rfl
theorem row_len (a b : Int) (i : Nat) : (rowOf a b i).length = i := by simp [rowOf]
set_option maxHeartbeats 8000000 in
theorem cut_calls : ∀ f : Nat, CutC f
 | 0 => fun X a b n w hX h hl => by unfold CutOk at h; omega
 | f + 1 => fun X a b n w hX h hl => by
  have ih := cut_calls f
  have HS := aM (Sep.start hX)
  have HC := aM h
  have HIH := aM (both_calls f ih)
  have HL := aM (show b - a ≤ (f : Int) by omega)
  have hb : 0 ≤ a ∧ a ≤ b ∧ b ≤ 1114111 ∧ 1 ≤ n ∧ n ≤ 4 ∧ (b < 55296 ∨ 57343 < a) := by unfold CutOk at h; omega
  have HEN := aM (enc_len h)
  obtain ⟨ha0, hab, hb1, hn1, hn4, hsur⟩ := hb
  have HSUR := aM hsur
  obtain ⟨r, hr⟩ : ∃ r, r = cutF (f + 1) a b n := ⟨_, rfl⟩
  rw [← hr]
  rw [cutF] at hr
  obtain ⟨c, hc⟩ : ∃ c, c = cutAt a b (n - 1) 1 := ⟨_, rfl⟩
  rw [← hc] at hr
  have HR := aM hr
  have HCC := aM (show cutAt a b (n - 1) 1 = c from hc.symm)
  have HIN := aM (fun x (hx : c = some x) => cutAt_in a b ha0 hab _ _ x (by decide) (hc.symm.trans hx))
  clear hX h hl ih hc hr hsur
  go_enter Tryz.func84, Tryz.ntmps84
  go_wp2_with fail
  go_loopg [7, 8] (n - 1) (fun q v7 v8 w' => ∃ (k : Nat) (m : Int), (v8 = .int .i64 (k : Int) ∧ v7 = .int .i64 m) ∧ Aside0 (k + q = n ∧ 1 ≤ k) ∧ Aside0 ((k = 1 ∧ m = 1) ∨ (k = 2 ∧ m = 64) ∨ (k = 3 ∧ m = 4096) ∨ (k = 4 ∧ m = 262144)) ∧ Aside0 (cutAt a b q m = c) ∧ Aside0 (Sep X w w' []))
  case atStart => exact ⟨1, 1, ⟨rfl, rfl⟩, ⟨by omega, by omega⟩, ⟨by omega⟩, HCC, HS⟩
  case round =>
   clear HCC HS
   obtain ⟨k, m, ⟨rfl, rfl⟩, HK, HM, HCC, HS⟩ := hrel
   cases gk with
   | zero =>
    have e1 : decide ((k : Int) < (n : Int)) = false := dF (by have := HK.out; omega)
    have e2 : decide (k < n) = false := dF (by have := HK.out; omega)
    have c0 : c = none := HCC.out.symm
    have HR2 := aM (show r = [rowOf a b n] by rw [HR.out, c0])
    clear HCC HR c0
    go_wp2_with (first
     | ((go_at_call 94; (with_reducible refine (enc_calls _ a _ HS.out.lt ha0 (by omega) (by have := HSUR.out; omega)).mono ?_)); rintro e w5 ⟨v5, rfl, hv, hb⟩; have hs := HS.out.push_ro hb hv; clear HS hv hb; have HS := aM hs; clear hs)
     | ((go_at_call 94; (with_reducible refine (enc_calls _ b _ HS.out.lt (by omega) (by omega) (by have := HSUR.out; omega)).mono ?_)); rintro e w6 ⟨v6, rfl, hv, hb⟩; have hs := (HS.out.push_ro hb hv).push_nil kRg 143; clear HS hv hb; have HS := aM hs; clear hs))
    obtain ⟨A5, c5, e5⟩ := HS.out.rform 0 rfl
    subst e5
    obtain ⟨A6, c6, e6⟩ := HS.out.rform 1 rfl
    subst e6
    clear e1 e2
    go_loopg [11, 12] n (fun q v11 v12 w' => ∃ (i : Nat), v12 = .int .i64 (i : Int) ∧ Aside0 (i + q = n) ∧ Aside0 (Sep X w w' [.ro kU8 (.slice A5 (encL a).length c5) (encL a), .ro kU8 (.slice A6 (encL b).length c6) (encL b), .row kRg 143 v11 (rowOf a b i)]))
    case atStart => exact ⟨0, rfl, ⟨by omega⟩, HS⟩
    case round =>
     clear HS
     obtain ⟨i, rfl, HI, HS⟩ := hrel
     cases gk with
     | zero =>
      have hi : i = n := by have := HI.out; omega
      subst hi
      have e1 : decide ((i : Int) < (i : Int)) = false := dF (by omega)
      have e2 : decide (i < i) = false := dF (by omega)
      obtain ⟨A7, c7, e7⟩ := HS.out.form 2 rfl
      subst e7
      have hs := HS.out.sealRo 2 rfl
      clear HS
      have HS := aM hs
      clear hs
      go_wp2_with (first
       | ((with_reducible refine gate_dst (N := 79) rfl ?_); refine slit_row kRgs 139 ?hg (N := 79) ?hd (xs := [rowOf a b i]) (inner := [.slice A7 (rowOf a b i).length c7]) ?hr HS.out ?hp (by simp) ?_; (case hd => rfl); (case hg => rfl); (case hr => first | (go_simp; done) | (go_simp; rfl)); (case hp => exact Reps.one (PK.slice (HS.out.ro 2 rfl)) (Reps.none _ _)); clear HS; intro v20 w20 hs; have HS := aM hs; clear hs))
      go_ret
      rw [HR2.out]
      exact ⟨_, rfl, HS.out.res_own 3 rfl, HS.out.below⟩
     | succ q1 =>
      have hi : i < n := by have := HI.out; omega
      have e1 : decide ((i : Int) < (n : Int)) = true := dT (by omega)
      have e2 : decide (i < n) = true := dT hi
      have hi0 : (0 : Int) ≤ (i : Int) := by omega
      have hia : i < (encL a).length := by rw [HEN.out.1]; exact hi
      have hib : i < (encL b).length := by rw [HEN.out.2]; exact hi
      have hia1 : (i : Int) < ((encL a).length : Int) := by omega
      have hib1 : (i : Int) < ((encL b).length : Int) := by omega
      have hin4 : i < 4 := by omega
      obtain ⟨a5, c5', e5, _⟩ := intk_cell (HS.out.ro 0 rfl) i hia
      cases e5
      obtain ⟨a6, c6', e6, _⟩ := intk_cell (HS.out.ro 1 rfl) i hib
      cases e6
      have HST := aM (row_step a b i)
      obtain ⟨xa, hxa⟩ : ∃ x, x = (encL a).getD i 0 := ⟨_, rfl⟩
      obtain ⟨xb, hxb⟩ : ∃ x, x = (encL b).getD i 0 := ⟨_, rfl⟩
      rw [← hxa, ← hxb] at HST
      have HXA := aM hxa.symm
      have HXB := aM hxb.symm
      have HIA := aM hia
      have HIB := aM hib
      clear hxa hxb
      go_wp2_with fail
      have hs := HS.out.drew
      clear HS; have HS := aM hs; clear hs
      refine start_ (n := 13) (S := fun w' => w'.cell? (a5.add i) = some (.int .u8 xa) ∧ w'.cell? (a6.add i) = some (.int .u8 xb)) (ds := [11]) #[false, false, false, false, false, false, false, false, false, false, false, false, false] (by kernel_rfl) rfl rfl ⟨(ro_cellk HS.out 0 rfl i HIA.out HXA.out), (ro_cellk HS.out 1 rfl i HIB.out HXB.out)⟩ (fun hHeld => ?_)
      refine pure_ (i := 0) (N := some 66) (v := ?_) (a' := ?_) (bv 13 1) rfl rfl (by kernel_rfl) (fun _ _ _ h => h) (Or.inl ⟨by rfl, ?_⟩) ?_ ?_
      rotate_left
      ·intro w'
       go_simp
       with_reducible rfl
      rotate_left
      ·simp only [Act.put, qA, qB, qC, i64_w, i32_w]
       rfl
      refine pure_ (i := 1) (N := some 67) (v := ?_) (a' := ?_) (bv 13 3) rfl rfl (by kernel_rfl) (fun _ _ _ h => h) (Or.inl ⟨by rfl, ?_⟩) ?_ ?_
      rotate_left
      ·intro w'
       go_simp
       with_reducible rfl
      rotate_left
      ·simp only [Act.put, qA, qB, qC, i64_w, i32_w]
       rfl
      refine pure_ (i := 2) (N := some 68) (v := ?_) (a' := ?_) (bv 13 7) rfl rfl (by kernel_rfl) (fun _ _ _ h => h) (Or.inl ⟨by rfl, ?_⟩) ?_ ?_
      rotate_left
      ·intro w'
       go_simp
       with_reducible rfl
      rotate_left
      ·simp only [Act.put, qA, qB, qC, i64_w, i32_w]
       rfl
      refine pure_ (i := 3) (N := some 69) (v := ?_) (a' := ?_) (bv 13 15) rfl rfl (by kernel_rfl) (fun _ _ _ h => h) (Or.inl ⟨by rfl, ?_⟩) ?_ ?_
      rotate_left
      ·intro w'
       go_simp
       with_reducible rfl
      rotate_left
      ·simp only [Act.put, qA, qB, qC, i64_w, i32_w]
       rfl
      refine pure_ (i := 5) (N := some 71) (v := ?_) (a' := ?_) (bv 13 47) rfl rfl (by kernel_rfl) (fun _ _ _ h => h) (Or.inl ⟨by rfl, ?_⟩) ?_ ?_
      rotate_left
      ·intro w'
       go_simp
       with_reducible rfl
      rotate_left
      ·simp only [Act.put, qA, qB, qC, i64_w, i32_w]
       rfl
      refine pure_ (i := 6) (N := some 72) (v := ?_) (a' := ?_) (bv 13 111) rfl rfl (by kernel_rfl) (fun _ _ _ h => h) (Or.inl ⟨by rfl, ?_⟩) ?_ ?_
      rotate_left
      ·intro w'
       go_simp
       with_reducible rfl
      rotate_left
      ·simp only [Act.put, qA, qB, qC, i64_w, i32_w]
       rfl
      refine pure_ (i := 7) (N := some 73) (v := ?_) (a' := ?_) (bv 13 239) rfl rfl (by kernel_rfl) (fun _ _ _ h => h) (Or.inl ⟨by rfl, ?_⟩) ?_ ?_
      rotate_left
      ·intro w'
       go_simp
       with_reducible rfl
      rotate_left
      ·simp only [Act.put, qA, qB, qC, i64_w, i32_w]
       rfl
      refine take_ (i := 4) (N := some 70) (v := ?_) (a' := ?_) (bv 13 255) rfl rfl (by kernel_rfl) (fun _ _ _ h => h) (Or.inl ⟨by rfl, ?_⟩) hHeld ?_ ?_
      rotate_left
      ·rintro w' ⟨s0, s1⟩
       go_simp
       with_reducible rfl
      rotate_left
      ·simp only [Act.put, qA, qB, qC, i64_w, i32_w]
       rfl
      refine take_ (i := 8) (N := some 74) (v := ?_) (a' := ?_) (bv 13 511) rfl rfl (by kernel_rfl) (fun _ _ _ h => h) (Or.inl ⟨by rfl, ?_⟩) hHeld ?_ ?_
      rotate_left
      ·rintro w' ⟨s0, s1⟩
       go_simp
       with_reducible rfl
      rotate_left
      ·simp only [Act.put, qA, qB, qC, i64_w, i32_w]
       rfl
      refine pure_ (i := 9) (N := some 75) (v := ?_) (a' := ?_) (bv 13 1023) rfl rfl (by kernel_rfl) (fun _ _ _ h => h) (Or.inl ⟨by rfl, ?_⟩) ?_ ?_
      rotate_left
      ·intro w'
       go_simp
       with_reducible rfl
      rotate_left
      ·simp only [Act.put, qA, qB, qC, i64_w, i32_w]
       rfl
      refine one_ (i := 10) (N := some 76) (bv 13 2047) rfl rfl (by kernel_rfl) (by decide) (fun K hK => ?_)
      refine value_ (w1 := ?_) (v := ?_) (by rfl) rfl ?_ ?_
      rotate_left 2
      ·go_simp
       constructor
       ·rfl
       ·rfl
      have hs := HS.out.lit_ro kRg 143 (xs := [(⟨xa, xb⟩ : Rg)]) (inner := [.int .u8 xa, .int .u8 xb]) (rg_rep _ _ xa xb) (by simp)
      clear HS; have HS := aM hs; clear hs
      refine hK.out _ _ ⟨(ro_cellk HS.out 0 rfl i HIA.out HXA.out), (ro_cellk HS.out 1 rfl i HIB.out HXB.out)⟩ (fun hHeld => ?_)
      clear hK K
      refine norm_ (a' := ?_) ?_ ?_
      rotate_left
      ·show Act.put _ (some 76) _ = _
       simp only [Act.put, qA, qB, qC, i64_w, i32_w]
       rfl
      refine last_ (i := 11) (N := some 77) #[true, true, true, true, true, true, true, true, true, true, true, true, false] rfl rfl (by kernel_rfl) (by decide) (fun K hK => ?_)
      refine sgrow_step kRg 2 (by rfl) rfl (.tmp 66) (.tmp 76) 139 143 (.agg #[.int .u8 0, .int .u8 0]) 2 rfl Tryz.underlying139 info143 rfl (by decide) (by omega) _ _ (rowOf a b i) [(⟨xa, xb⟩ : Rg)] rfl rfl HS.out rfl (HS.out.ro 3 rfl) (by rw [row_len]; simp; omega) ?_
      intro v1 w1 hs
      clear HS; have HS := aM hs; clear hs
      refine hK.out _ _ ?_
      clear hK K
      refine norm_ (a' := ?_) ?_ ?_
      rotate_left
      ·show Act.put _ (some 77) _ = _
       simp only [Act.put, qA, qB, qC, i64_w, i32_w]
       rfl
      refine pure_ (i := 12) (N := some 11) (v := ?_) (a' := ?_) (bv 13 8191) rfl rfl (by kernel_rfl) (fun _ _ _ h => h) (Or.inl ⟨by rfl, ?_⟩) ?_ ?_
      rotate_left
      ·intro w'
       go_simp
       with_reducible rfl
      rotate_left
      ·simp only [Act.put, qA, qB, qC, i64_w, i32_w]
       rfl
      refine done_ (by kernel_rfl) ?_
      rw [HST.out] at HS
      go_wp2_with fail
      go_roundg q1
      case measure => omega
      case rel => exact ⟨i + 1, by go_num, ⟨by have := HI.out; omega⟩, ⟨HS.out.take 3⟩⟩
   | succ q =>
    have hk : k < n := by have := HK.out; omega
    have e1 : decide ((k : Int) < (n : Int)) = true := dT (by omega)
    have e2 : decide (k < n) = true := dT hk
    have hm0 := HM.out
    have hm1 : 1 ≤ m := by omega
    have hM2 : 64 ≤ m * 64 := by omega
    have hM3 : m * 64 ≤ 262144 := by omega
    have hm3 : m ≤ 4096 := by omega
    have HM2 := aM (show (k + 1 = 1 ∧ m * 64 = 1) ∨ (k + 1 = 2 ∧ m * 64 = 64) ∨ (k + 1 = 3 ∧ m * 64 = 4096) ∨ (k + 1 = 4 ∧ m * 64 = 262144) by omega)
    have HCC1 := HCC.out
    rw [cutAt] at HCC1
    have ha1 := Int.emod_nonneg a (show m * 64 ≠ 0 by omega)
    have hb1' := Int.emod_nonneg b (show m * 64 ≠ 0 by omega)
    have qa : 0 ≤ a / (m * 64) ∧ a / (m * 64) ≤ 1114111 := ⟨Int.ediv_nonneg ha0 (by omega), Int.le_trans (Int.ediv_le_self _ ha0) (by omega)⟩
    have qb : 0 ≤ b / (m * 64) ∧ b / (m * 64) ≤ 1114111 := ⟨Int.ediv_nonneg (by omega) (by omega), Int.le_trans (Int.ediv_le_self _ (by omega)) (by omega)⟩
    have hax : a % (m * 64) ≤ a := by have h1 := Int.emod_add_mul_ediv a (m * 64); have h2 := Int.mul_nonneg (show 0 ≤ m * 64 by omega) qa.1; omega
    have hbx : b % (m * 64) ≤ b := by have h1 := Int.emod_add_mul_ediv b (m * 64); have h2 := Int.mul_nonneg (show 0 ≤ m * 64 by omega) qb.1; omega
    obtain ⟨qa1, qa2⟩ := qa
    obtain ⟨qb1, qb2⟩ := qb
    clear HM HCC hm0
    by_cases c1 : a / (m * 64) = b / (m * 64)
    ·have f1 : (a / (m * 64) == b / (m * 64)) = true := beq_iff_eq.mpr c1
     have HC2 := aM (show cutAt a b q (m * 64) = c by rwa [if_pos c1] at HCC1)
     clear HCC1 c1
     go_wp2_with fail
     go_quiet (fail)
     have HS2 := aM (HS.out.drewN nq)
     go_wp2_with fail
     go_roundg q
     case measure => omega
     case rel => exact ⟨k + 1, m * 64, ⟨by go_num, rfl⟩, ⟨by have := HK.out; omega, by omega⟩, HM2, HC2, HS2⟩
    ·have f1 : (a / (m * 64) == b / (m * 64)) = false := bF c1
     rw [if_neg c1] at HCC1
     clear c1
     by_cases c2 : a % (m * 64) = 0
     case neg =>
      have f2 : (a % (m * 64) == 0) = false := bF c2
      have f3 : (a % (m * 64) != 0) = true := bne_iff_ne.mpr c2
      rw [if_pos c2] at HCC1
      have hin := HIN.out _ HCC1.symm
      have HRR := aM (show r = cutF f a (a - a % (m * 64) + m * 64 - 1) n ++ cutF f (a - a % (m * 64) + m * 64) b n by rw [HR.out, ← HCC1])
      have HIX := aM hin
      clear HCC1 hin c2 HR HIN
      go_wp2_with fail
      go_quiet (fail)
      have HS2 := aM (HS.out.drewN nq)
      go_wp2_with fail
      refine (HIH.out X a (a - a % (m * 64) + m * 64) b n _ (fun k hk => Nat.lt_of_lt_of_le (HS2.out.old k hk) HS2.out.below.size) (HC.out.left HIX.out) (HC.out.right HIX.out) (by have := HIX.out; have := HL.out; omega) (by have := HIX.out; have := HL.out; omega)).mono ?_
      rintro e w5 ⟨v5, rfl, hv, hb⟩
      have HV := aM (hv.base_le HS2.out.below.size)
      have HB := aM (below_step HS2.out.below hb)
      clear hv hb
      go_wp2_with fail
      go_ret
      rw [HRR.out]
      exact ⟨_, rfl, HV.out, HB.out⟩
     case pos =>
      have f2 : (a % (m * 64) == 0) = true := beq_iff_eq.mpr c2
      have f3 : (a % (m * 64) != 0) = false := bne_eq_false_iff_eq.mpr c2
      rw [if_neg (fun h => h c2)] at HCC1
      by_cases c3 : b % (m * 64) = m * 64 - 1
      case neg =>
       have f4 : (b % (m * 64) == m * 64 - 1) = false := bF c3
       have f5 : (b % (m * 64) != m * 64 - 1) = true := bne_iff_ne.mpr c3
       rw [if_pos c3] at HCC1
       have hin := HIN.out _ HCC1.symm
       have HRR := aM (show r = cutF f a (b - b % (m * 64) - 1) n ++ cutF f (b - b % (m * 64)) b n by rw [HR.out, ← HCC1])
       have HIX := aM hin
       clear HCC1 hin c2 c3 HR HIN
       go_wp2_with fail
       go_quiet (fail)
       have HS2 := aM (HS.out.drewN nq)
       go_wp2_with fail
       refine (HIH.out X a (b - b % (m * 64)) b n _ (fun k hk => Nat.lt_of_lt_of_le (HS2.out.old k hk) HS2.out.below.size) (HC.out.left HIX.out) (HC.out.right HIX.out) (by have := HIX.out; have := HL.out; omega) (by have := HIX.out; have := HL.out; omega)).mono ?_
       rintro e w5 ⟨v5, rfl, hv, hb⟩
       have HV := aM (hv.base_le HS2.out.below.size)
       have HB := aM (below_step HS2.out.below hb)
       clear hv hb
       go_wp2_with fail
       go_ret
       rw [HRR.out]
       exact ⟨_, rfl, HV.out, HB.out⟩
      case pos =>
       have f4 : (b % (m * 64) == m * 64 - 1) = true := beq_iff_eq.mpr c3
       have f5 : (b % (m * 64) != m * 64 - 1) = false := bne_eq_false_iff_eq.mpr c3
       rw [if_neg (fun h => h c3)] at HCC1
       have HC2 := aM HCC1
       clear HCC1 c2 c3
       go_wp2_with fail
       go_quiet (fail)
       have HS2 := aM (HS.out.drewN nq)
       go_wp2_with fail
       go_roundg q
       case measure => omega
       case rel => exact ⟨k + 1, m * 64, ⟨by go_num, rfl⟩, ⟨by have := HK.out; omega, by omega⟩, HM2, HC2, HS2⟩
end Go.Proofs.YtplhfgobeicegaaGreatDoor.P
