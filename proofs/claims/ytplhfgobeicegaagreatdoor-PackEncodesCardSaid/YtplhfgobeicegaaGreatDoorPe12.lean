/- Part 12 of the proof: V10, V11, T04, T05, T06, IT. -/
import Derived.Laws.Bits64b
import Derived.Shelf.Abstract
import Derived.Test.YtplhfgobeicegaaGreatDoorPe11
namespace Go.Proofs.YtplhfgobeicegaaGreatDoor.P
open Go Go.RowKit Go.Proofs.YtplhfgobeicegaaGreatDoorW.PrintWords Go.Proofs.YtplhfgobeicegaaGreatDoorW.PrintLast Go.Proofs.YtplhfgobeicegaaGreatDoorW.PrintMore Go.Proofs.YtplhfgobeicegaaGreatDoor.PX
set_option linter.unusedVariables false
set_option linter.unusedSimpArgs false
set_option maxRecDepth 100000
theorem and_n {n : Nat} (h : n < 4294967296) : bits .and .u64 (n : Int) 4294967295 = (n : Int) := by
 have e := bits_and_u64_nat n 4294967295 (by omega) (by omega)
 rw [show ((4294967295 : Nat) : Int) = 4294967295 from rfl] at e
 rw [e, show n &&& 4294967295 = n % 4294967296 from Nat.and_two_pow_sub_one_eq_mod n 32, Nat.mod_eq_of_lt h]
set_option maxHeartbeats 4000000 in
theorem mul64_calls (n : Nat) (hn : n < 1000) (w : World) :
  Calls Tryz.prog 75 #[.int .u64 1, .int .u64 n] w fun e w' => e = .returned (.tuple #[.int .u64 0, .int .u64 n]) ∧ w' = w := by
 have a1 : bits .and .u64 1 4294967295 = 1 := by have := and_n (n := 1) (by decide); exact this
 have a2 : bits .and .u64 (n : Int) 4294967295 = (n : Int) := and_n (by omega)
 have a3 : bits .and .u64 0 4294967295 = 0 := by have := and_n (n := 0) (by decide); exact this
 have a4 : (n : Int) / 4294967296 = 0 := by omega
 have a5 : IntKind.u64.wrap (n : Int) = (n : Int) := by rw [IntKind.wrap_u64]; omega
 have a6 : IntKind.u64.wrap 0 = 0 := by rw [IntKind.wrap_u64]; rfl
 go_enter Tryz.func75, Tryz.ntmps75
 go_wp2_with fail
 go_ret2
 exact ⟨rfl, rfl⟩
theorem mul_calls (n : Nat) (hn : n < 1000) (w : World) :
  Calls Tryz.prog 56 #[.int .u64 1, .int .u64 n] w fun e w' => e = .returned (.tuple #[.int .u64 0, .int .u64 n]) ∧ w' = w := by
 go_enter Tryz.func56, Tryz.ntmps56
 go_wp2_with (first
  | (go_at_call 75; (with_reducible refine (mul64_calls n hn _).mono ?_); rintro ee w5 ⟨rfl, rfl⟩))
 go_ret2
 exact ⟨rfl, rfl⟩
def rep (x : Int) (o N : Nat) : List Int := List.replicate o x ++ List.replicate (N - o) 0
theorem rep_len (x : Int) (o N : Nat) (h : o ≤ N) : (rep x o N).length = N := by simp [rep]; omega
theorem rep_set (x : Int) (o N : Nat) (h : o < N) : (rep x o N).set o x = rep x (o + 1) N := by
 unfold rep
 rw [List.set_append_right _ _ (by simp), List.length_replicate, Nat.sub_self, show N - o = (N - (o + 1)) + 1 by omega, List.replicate_succ, List.set_cons_zero, List.replicate_succ', List.append_assoc]
 rfl
theorem rep_at (x : Int) (o N j : Nat) (h : j < o) : (rep x o N).getD j 0 = x := by
 unfold rep
 rw [List.getD_eq_getElem?_getD, List.getElem?_append_left (by simpa using h), List.getElem?_replicate, if_pos h]
 rfl
theorem Sep.set_int' {k : IntKind} {X : Nat → Prop} {w0 w : World} {L : List PX.Item} {e g n c : Nat} {ns : List Int} (h : PX.Sep X w0 w L) (i : Nat) (hi : L[i]? = some (.row (Kd.int k) e (.slice (some ⟨g, 0, none⟩) n c) ns)) (j : Nat) (hj : j < ns.length) (q : Int) : PX.Sep X w0 (w.setCell ⟨g, j, none⟩ (.int k q)) (L.set i (.row (Kd.int k) e (.slice (some ⟨g, 0, none⟩) n c) (ns.set j q))) := by
 obtain ⟨g', c', e1, _, _, h2⟩ := h.int i hi j hj
 have e2 := h2 q
 cases e1
 exact e2
theorem Sep.fill {X : Nat → Prop} {w0 : World} {e g N c i : Nat} {x : Int} : ∀ (k o : Nat) (w : World) (L : List PX.Item), PX.Sep X w0 w L → L[i]? = some (.row kInt e (.slice (some ⟨g, 0, none⟩) N c) (rep x o N)) → o + k ≤ N →
  PX.Sep X w0 (w.setCells g o (List.replicate k (.int .i64 x))) (L.set i (.row kInt e (.slice (some ⟨g, 0, none⟩) N c) (rep x (o + k) N)))
 | 0, o, w, L, h, hi, hN => by
  show PX.Sep X w0 w _
  rw [Nat.add_zero]
  obtain ⟨h1, h2⟩ := List.getElem?_eq_some_iff.1 hi
  rw [← h2, List.set_getElem_self]
  exact h
 | k + 1, o, w, L, h, hi, hN => by
  have hlt : i < L.length := (List.getElem?_eq_some_iff.1 hi).1
  have h1 := Sep.set_int' h i hi o (by rw [rep_len _ _ _ (by omega)]; omega) x
  rw [rep_set x o N (by omega)] at h1
  have h2 := Sep.fill k (o + 1) _ _ h1 (List.getElem?_set_self hlt) (by omega)
  rw [List.set_set, show o + 1 + k = o + (k + 1) by omega] at h2
  exact h2
theorem copy_eq {P : Program} {t t' e ty : TypeId} (ht : P.underlying t = some (.slice e)) (hinfo : (P.info? e).map (·.size) = some 1)
  {X : Nat → Prop} {w0 W : World} {L : List PX.Item} {i g N c E off dLen dCap sLen sCap k : Nat} {ad : Addr} {x : Int} (HS : PX.Sep X w0 W L) (hi : L[i]? = some (.row kInt E (.slice (some ⟨g, 0, none⟩) N c) (rep x off N)))
  (hk : Nat.min sLen dLen = k) (hN : off + k ≤ N) (hsrc : ∀ j, j < k → W.cell? (ad.add j) = some (.int .i64 x)) :
  (Builtin.copy_ #[t, t'] ty #[.slice (some ⟨g, off, none⟩) dLen dCap, .slice (some ad) sLen sCap]).run P W = .ok (.int .i64 (k : Int)) (W.setCells g off (List.replicate k (.int .i64 x))) := by
 have hcell : ∀ j, j < k → ∃ u, W.cell? ⟨g, off + j, none⟩ = some u ∧ W.frozen? ⟨g, off + j, none⟩ = false := fun j hj => by
  obtain ⟨g', c', e1, h1, h2, _⟩ := HS.int i hi (off + j) (by rw [rep_len _ _ _ (by omega)]; omega)
  obtain ⟨h3, _, _⟩ := Value.slice.inj e1
  cases h3
  exact ⟨_, h1, h2⟩
 have hr1 := run_copy_cells (P := P) W t t' ty e g off dLen dCap ad sLen sCap (List.replicate k (.int .i64 x)) ht hinfo (by rw [List.length_replicate]; exact hk.symm)
  (fun j v hv => by
   rw [List.getElem?_replicate] at hv
   split at hv
   ·next h => cases hv; exact hsrc j h
   ·cases hv)
  (fun j hj => by rw [List.length_replicate] at hj; obtain ⟨u, h1, _⟩ := hcell j hj; rw [h1]; rfl)
  (fun j hj => by rw [List.length_replicate] at hj; obtain ⟨u, _, h2⟩ := hcell j hj; exact h2)
  (fun v hv => by rw [List.eq_of_mem_replicate hv]; rfl)
 rw [List.length_replicate] at hr1
 exact hr1
theorem src_of {X : Nat → Prop} {w0 w : World} {L : List PX.Item} {i e g c o N : Nat} {x : Int} (h : PX.Sep X w0 w L) (hi : L[i]? = some (.row kInt e (.slice (some ⟨g, 0, none⟩) N c) (rep x o N))) (k : Nat) (hk : k ≤ o) (hN : o ≤ N) : ∀ j, j < k → w.cell? ((⟨g, 0, none⟩ : Addr).add j) = some (.int .i64 x) := by
 intro j hj
 obtain ⟨g', c', e1, h1, _, _⟩ := h.int i hi j (by rw [rep_len _ _ _ hN]; omega)
 obtain ⟨h3, _, _⟩ := Value.slice.inj e1
 cases h3
 rw [rep_at x o N j (by omega)] at h1
 rw [← h1]
 congr 1
 unfold Addr.add
 split
 ·next h0 => subst h0; rfl
 ·simp
set_option maxHeartbeats 8000000 in
theorem repeat_calls (X : Nat → Prop) (w0 w : World) (L : List PX.Item) (v : Value) (x : Int) (n : Nat) (hs : Sep X w0 w L) (hv : PV kInt (Ys X L) w v [x]) (hn : 1 ≤ n ∧ n < 1000) :
  Calls Tryz.prog 47 #[v, .int .i64 n] w fun e w' => ∃ v1, e = .returned v1 ∧ Sep X w0 w' (L ++ [.ro kInt v1 (List.replicate n x)]) := by
 obtain ⟨hn1, hn2⟩ := hn
 obtain ⟨ad, cd, ed, ya⟩ := int_cell hv 0 (by simp)
 change World.cell? _ ad = some (.int .i64 x) at ya
 rw [show [x].length = 1 from rfl] at ed
 subst ed
 have HS := aM (hs.push_ro (Below.refl _ _) hv)
 have HV := aM hv
 clear hs hv
 have d1 : decide ((n : Int) < 0) = false := dF (by omega)
 have d1' : ¬ (n : Int) < 0 := by omega
 have a5 : IntKind.u64.wrap (n : Int) = (n : Int) := by rw [IntKind.wrap_u64]; omega
 have a6 : IntKind.u64.wrap 1 = 1 := by rw [IntKind.wrap_u64]; rfl
 have d2 : decide ((n : Int) > 9223372036854775807) = false := dF (by omega)
 have d2' : ¬ 9223372036854775807 < (n : Int) := by omega
 have hw : wrap64 (n : Int) = (n : Int) := IntWalk.wrap64_in _ (by omega)
 go_enter Tryz.func47, Tryz.ntmps47
 go_upto_region 7 with (first
  | (go_at_call 56; (with_reducible refine (mul_calls n hn2 _).mono ?_); rintro ee w5 ⟨rfl, rfl⟩)
  | ((with_reducible refine gate_dst (N := 30) rfl ?_); refine smake .i64 3 rfl (N := 30) rfl 26 (.tmp 29) (.tmp 29) rfl n rfl rfl Tryz.underlying26 8 info3' (by omega) (by omega) HS.out ?_; clear HS; intro v30 w30 hs; have HS := aM hs; clear hs))
 obtain ⟨M, hM⟩ : ∃ M, M = L ++ [PX.Item.ro kInt (.slice (some ad) 1 cd) [x]] := ⟨_, rfl⟩
 have HM := aM hM
 rw [← hM] at HS
 clear hM
 obtain ⟨g, cg, eg, _, _, _⟩ := HS.out.int M.length List.getElem?_concat_length 0 (by rw [List.length_replicate]; omega)
 rw [List.length_replicate] at eg
 subst eg
 obtain ⟨_, _, e7', hle, _⟩ := (HS.out.row M.length List.getElem?_concat_length).now
 rw [List.length_replicate] at hle
 have hcg : n ≤ cg := by obtain ⟨_, _, h3⟩ := Value.slice.inj e7'; omega
 have HS2 : Sep X w0 w30 (M ++ [.row kInt 3 (.slice (some ⟨g, 0, none⟩) n cg) (rep x 0 n)]) := by
  rw [show rep x 0 n = List.replicate n 0 by simp [rep]]
  exact HS.out
 clear HS hle e7'
 have HS := aM HS2
 clear HS2
 have ya2 : w30.cell? ad = some (.int .i64 x) := by
  obtain ⟨ad2, cd2, ed2, y2⟩ := int_cell (HS.out.ro L.length (by rw [HM.out, List.append_assoc, List.getElem?_append_right (Nat.le_refl _), Nat.sub_self]; rfl) (d := kInt) (v := .slice (some ad) 1 cd) (xs := [x])) 0 (by simp)
  obtain ⟨h3, _, _⟩ := Value.slice.inj ed2
  cases h3
  exact y2
 have HYA := aM ya2
 have HSRC := aM (show ∀ j, j < 1 → w30.cell? (ad.add j) = some (.int .i64 x) from fun j hj => by
  have h0 : j = 0 := Nat.lt_one_iff.1 hj
  subst h0
  exact ya2)
 have hmin : Nat.min 1 n = 1 := Nat.min_eq_left hn1
 clear ya ya2 HV
 have kc := copy_eq (P := Tryz.prog) (t := 26) (t' := 26) (ty := 3) (e := 3) (dLen := n) (dCap := cg) (sLen := 1) (sCap := cd) Tryz.underlying26 (by rfl) HS.out List.getElem?_concat_length hmin (by omega) (ad := ad) (x := x) HSRC.out
 have hs := Sep.fill 1 0 w30 _ HS.out List.getElem?_concat_length (by omega)
 obtain ⟨w31, hw31⟩ : ∃ y, y = w30.setCells g 0 (List.replicate 1 (.int .i64 x)) := ⟨_, rfl⟩
 rw [← hw31] at kc hs
 clear HS HYA hmin hw31
 have HS := aM hs
 clear hs
 go_wp2_with fail
 have eset : ∀ a b : PX.Item, (M ++ [a]).set M.length b = M ++ [b] := fun a b => by rw [List.set_append_right _ _ (Nat.le_refl _), Nat.sub_self]; rfl
 have HS1 : Sep X w0 w31 (M ++ [.row kInt 3 (.slice (some ⟨g, 0, none⟩) n cg) (rep x 1 n)]) := by
  have h := HS.out
  rw [eset] at h
  exact h
 clear HS kc HSRC
 have HS := aM HS1
 have HES := aM eset
 clear HS1 eset d1 d1' a5 a6 d2 d2' hw
 go_loopg [8] (n - 1) (fun m v8 w' => ∃ (o : Nat), v8 = .int .i64 o ∧ Aside0 (o + m = n ∧ 1 ≤ o) ∧ Aside0 (Sep X w0 w' (M ++ [.row kInt 3 (.slice (some ⟨g, 0, none⟩) n cg) (rep x o n)])))
 case atStart => exact ⟨1, rfl, ⟨by omega, by omega⟩, HS⟩
 case round =>
  clear HS
  obtain ⟨o, rfl, HO, HS⟩ := hrel
  cases gk with
  | zero =>
   have ho : o = n := by have := HO.out.1; omega
   have e1 : decide ((o : Int) < (n : Int)) = false := dF (by omega)
   have e2 : decide (o < n) = false := dF (by omega)
   subst ho
   go_wp2_with fail
   go_ret
   have h1 := HS.out.sealRo M.length List.getElem?_concat_length
   rw [HES.out, HM.out, show rep x o o = List.replicate o x by simp [rep]] at h1
   refine ⟨_, rfl, h1.sub ?_⟩
   rw [List.append_assoc]
   exact List.Sublist.append_left (List.sublist_append_right _ _) L
  | succ k1 =>
   have hon : o < n := by have := HO.out.1; omega
   have ho1 := HO.out.2
   have e1 : decide ((o : Int) < (n : Int)) = true := dT (by omega)
   have e2 : decide (o < n) = true := dT hon
   have hco : ¬ cg = o := by omega
   have ho0 : (0 : Int) ≤ (o : Int) := by omega
   have hoi : (o : Int) ≤ (n : Int) := by omega
   have hoc : (o : Int) ≤ (cg : Int) := by omega
   have hoc' : o ≤ cg := by omega
   obtain ⟨kk, hkk⟩ : ∃ k, k = Nat.min o (n - o) := ⟨_, rfl⟩
   have HKK := aM hkk.symm
   have HKN := aM (show o + kk ≤ n ∧ kk ≤ o ∧ 1 ≤ kk ∧ o ≤ n by have hk2 : kk = min o (n - o) := hkk; omega)
   clear hkk
   go_wp2_with fail
   have hs := HS.out.drew
   clear HS; have HS := aM hs; clear hs
   refine start_ (n := 10) (S := fun w' => True) (ds := []) #[false, false, false, false, false, false, false, false, false, false] (by kernel_rfl) rfl rfl trivial (fun hHeld => ?_)
   refine pure_ (i := 0) (N := some 38) (v := ?_) (a' := ?_) (bv 10 1) rfl rfl (by kernel_rfl) (fun _ _ _ h => h) (Or.inl ⟨by rfl, ?_⟩) ?_ ?_
   rotate_left
   ·intro w'
    go_simp
    with_reducible rfl
   rotate_left
   ·simp only [Act.put, qA, qB, qC, i64_w, i32_w]
    rfl
   refine pure_ (i := 1) (N := some 39) (v := ?_) (a' := ?_) (bv 10 3) rfl rfl (by kernel_rfl) (fun _ _ _ h => h) (Or.inl ⟨by rfl, ?_⟩) ?_ ?_
   rotate_left
   ·intro w'
    go_simp
    with_reducible rfl
   rotate_left
   ·simp only [Act.put, qA, qB, qC, i64_w, i32_w]
    rfl
   refine pure_ (i := 2) (N := some 40) (v := ?_) (a' := ?_) (bv 10 7) rfl rfl (by kernel_rfl) (fun _ _ _ h => h) (Or.inl ⟨by rfl, ?_⟩) ?_ ?_
   rotate_left
   ·intro w'
    go_simp
    with_reducible rfl
   rotate_left
   ·simp only [Act.put, qA, qB, qC, i64_w, i32_w]
    rfl
   refine pure_ (i := 3) (N := some 41) (v := ?_) (a' := ?_) (bv 10 15) rfl rfl (by kernel_rfl) (fun _ _ _ h => h) (Or.inl ⟨by rfl, ?_⟩) ?_ ?_
   rotate_left
   ·intro w'
    go_simp
    with_reducible rfl
   rotate_left
   ·simp only [Act.put, qA, qB, qC, i64_w, i32_w]
    rfl
   refine pure_ (i := 4) (N := some 42) (v := ?_) (a' := ?_) (bv 10 31) rfl rfl (by kernel_rfl) (fun _ _ _ h => h) (Or.inl ⟨by rfl, ?_⟩) ?_ ?_
   rotate_left
   ·intro w'
    go_simp
    with_reducible rfl
   rotate_left
   ·simp only [Act.put, qA, qB, qC, i64_w, i32_w]
    rfl
   refine pure_ (i := 5) (N := some 43) (v := ?_) (a' := ?_) (bv 10 63) rfl rfl (by kernel_rfl) (fun _ _ _ h => h) (Or.inl ⟨by rfl, ?_⟩) ?_ ?_
   rotate_left
   ·intro w'
    go_simp
    with_reducible rfl
   rotate_left
   ·simp only [Act.put, qA, qB, qC, i64_w, i32_w]
    rfl
   refine pure_ (i := 6) (N := some 44) (v := ?_) (a' := ?_) (bv 10 127) rfl rfl (by kernel_rfl) (fun _ _ _ h => h) (Or.inl ⟨by rfl, ?_⟩) ?_ ?_
   rotate_left
   ·intro w'
    go_simp
    with_reducible rfl
   rotate_left
   ·simp only [Act.put, qA, qB, qC, i64_w, i32_w]
    rfl
   refine one_ (i := 7) (N := some 45) (bv 10 255) rfl rfl (by kernel_rfl) (by decide) (fun K hK => ?_)
   have kc2 := copy_eq (P := Tryz.prog) (t := 26) (t' := 26) (ty := 3) (e := 3) (dLen := n - o) (dCap := cg - o) (sLen := o) (sCap := cg) Tryz.underlying26 (by rfl) HS.out List.getElem?_concat_length HKK.out HKN.out.1 (src_of HS.out List.getElem?_concat_length kk HKN.out.2.1 HKN.out.2.2.2)
   refine value_ (w1 := ?_) (v := ?_) (by rfl) rfl ?_ ?_
   rotate_left 2
   ·go_simp
    constructor
    ·rfl
    ·rfl
   have hs := Sep.fill kk o _ _ HS.out List.getElem?_concat_length HKN.out.1
   rw [HES.out] at hs
   clear HS; have HS := aM hs; clear hs
   refine hK.out _ _ trivial (fun hHeld => ?_)
   clear hK K
   refine norm_ (a' := ?_) ?_ ?_
   rotate_left
   ·show Act.put _ (some 45) _ = _
    simp only [Act.put, qA, qB, qC, i64_w, i32_w]
    rfl
   refine pure_ (i := 8) (N := some 46) (v := ?_) (a' := ?_) (bv 10 511) rfl rfl (by kernel_rfl) (fun _ _ _ h => h) (Or.inl ⟨by rfl, ?_⟩) ?_ ?_
   rotate_left
   ·intro w'
    go_simp
    with_reducible rfl
   rotate_left
   ·simp only [Act.put, qA, qB, qC, i64_w, i32_w]
    rfl
   refine pure_ (i := 9) (N := some 8) (v := ?_) (a' := ?_) (bv 10 1023) rfl rfl (by kernel_rfl) (fun _ _ _ h => h) (Or.inl ⟨by rfl, ?_⟩) ?_ ?_
   rotate_left
   ·intro w'
    go_simp
    with_reducible rfl
   rotate_left
   ·simp only [Act.put, qA, qB, qC, i64_w, i32_w]
    rfl
   refine done_ (by kernel_rfl) ?_
   go_wp2_with fail
   rw [IntWalk.wrap64_in ((o : Int) + (kk : Int)) (by have := HKN.out; omega)]
   go_roundg (n - (o + kk))
   case measure => have := HKN.out; have := HO.out.1; omega
   case rel => exact ⟨o + kk, by go_num, ⟨by have := HKN.out.1; omega, by have := HKN.out.2.2.1; omega⟩, HS⟩
def rowR (read : Rd → Int × Rd) (many : Nat) : Nat → List Int → Rd → List Int × Rd
  | 0, l, r => (l, r)
  | f + 1, l, r => if l.length < many ∧ r.short = false then
      (if (oneR r).1 = 0 ∨ ((many - l.length : Nat) : Int) < (oneR r).1 then ([], ⟨(oneR r).2.b, true⟩)
       else rowR read many f (l ++ List.replicate (oneR r).1.toNat (read (oneR r).2).1) (read (oneR r).2).2)
    else (l, r)
set_option linter.unusedSectionVars false
section
variable (L : List PX.Item) (i : Nat) (hlt : i < L.length)
include hlt
theorem lr_i (b z : PX.Item) : (L.set i b ++ [z])[i]? = some b := by
 rw [List.getElem?_append_left (by rw [List.length_set]; exact hlt)]
 exact List.getElem?_set_self hlt
theorem lr_j (j : Nat) (hij : i ≠ j) (c : PX.Item) (hj : L[j]? = some c) (b z : PX.Item) : (L.set i b ++ [z])[j]? = some c := by
 have hjl := (List.getElem?_eq_some_iff.1 hj).1
 rw [List.getElem?_append_left (by rw [List.length_set]; exact hjl), List.getElem?_set_ne hij]
 exact hj
theorem lr_set (b b' z : PX.Item) : (L.set i b ++ [z]).set i b' = L.set i b' ++ [z] := by
 rw [List.set_append_left _ _ (by rw [List.length_set]; exact hlt), List.set_set]
theorem lr_n (b z : PX.Item) : (L.set i b ++ [z])[L.length]? = some z := by
 rw [List.getElem?_append_right (by rw [List.length_set]; exact Nat.le_refl _), List.length_set, Nat.sub_self]
 rfl
theorem lr_setn (b z z' : PX.Item) : (L.set i b ++ [z]).set L.length z' = L.set i b ++ [z'] := by
 rw [List.set_append_right _ _ (by rw [List.length_set]; exact Nat.le_refl _), List.length_set, Nat.sub_self]
 rfl
end
theorem lr_n3 (L : List PX.Item) (i : Nat) (b z x y : PX.Item) : (((L.set i b ++ [z]) ++ [x]) ++ [y])[L.length]? = some z := by
 rw [List.append_assoc, List.append_assoc, List.getElem?_append_right (by rw [List.length_set]; exact Nat.le_refl _), List.length_set, Nat.sub_self]
 rfl
theorem lr_set3 (L : List PX.Item) (i : Nat) (b z x y z' : PX.Item) : (((L.set i b ++ [z]) ++ [x]) ++ [y]).set L.length z' = (((L.set i b ++ [z']) ++ [x]) ++ [y]) := by
 rw [List.append_assoc, List.append_assoc, List.set_append_right _ _ (by rw [List.length_set]; exact Nat.le_refl _), List.length_set, Nat.sub_self, List.append_assoc, List.append_assoc]
 rfl
set_option maxHeartbeats 16000000 in
theorem row1_calls (X : Nat → Prop) (w0 w : World) (L : List PX.Item) (i j g gp : Nat) (vb : Value) (r : Rd) (many : Nat) (hs : Sep X w0 w L) (hij : i ≠ j) (hi : L[i]? = some (.box g 62 [vb, .bool r.short])) (hj : L[j]? = some (.box gp 60 [.pointer (some ⟨g, 0, none⟩)])) (hb : PV kU8 X w0 vb r.b) (hu : U8s r.b) (hm : many ≤ 1000) :
  Calls Tryz.prog 29 #[.pointer (some ⟨g, 0, none⟩), .int .i64 many, .func (.func 30) #[] #[.pointer (some ⟨gp, 0, none⟩)]] w fun e w' => ∃ v, e = .returned v ∧ ∃ vb', PV kU8 X w0 vb' (rowR oneR many many [] r).2.b ∧ Sep X w0 w' (L.set i (.box g 62 [vb', .bool (rowR oneR many many [] r).2.short]) ++ [.row kInt 3 v (rowR oneR many many [] r).1]) := by
 have hlt : i < L.length := (List.getElem?_eq_some_iff.1 hi).1
 have HI := aM (lr_i L i hlt)
 have HJ := aM (lr_j L i hlt j hij _ hj)
 have HN := aM (lr_n L i hlt)
 have HSI := aM (lr_set L i hlt)
 have HSN := aM (lr_setn L i hlt)
 have eg : ∀ args w, (callFunc 30 args).run Tryz.prog w = .ok (.enter 30 args) w := fun args w => enters_ Tryz.func30 rfl rfl args w
 have hs2 : Sep X w0 w (L.set i (.box g 62 [vb, .bool r.short]) ++ [.row kInt 3 (.slice none 0 0) []]) := by
  rw [show L.set i (.box g 62 [vb, .bool r.short]) = L from by
   obtain ⟨h1, h2⟩ := List.getElem?_eq_some_iff.1 hi
   rw [← h2]; exact List.set_getElem_self h1]
  exact hs.push_nil kInt 3
 obtain ⟨res, hres⟩ : ∃ q, q = rowR oneR many many [] r := ⟨_, rfl⟩
 rw [← hres]
 have HR := aM hres.symm
 have HS := aM hs2
 have HB := aM hb
 have HU := aM hu
 clear hs hi hj hb hu hs2 hres hij
 go_enter Tryz.func29, Tryz.ntmps29
 go_wp2_with fail
 go_loopg [7, 8] many (fun m v7 v8 w' => ∃ (l : List Int) (r : Rd) (vb : Value) (f : Nat), Aside0 (l.length + m = many ∧ m ≤ f) ∧ Aside0 (PV kU8 X w0 vb r.b) ∧ Aside0 (U8s r.b) ∧ Aside0 (rowR oneR many f l r = res) ∧ Aside0 (Sep X w0 w' (L.set i (.box g 62 [vb, .bool r.short]) ++ [.row kInt 3 v7 l])))
 case atStart => exact ⟨[], r, vb, many, ⟨by simp, Nat.le_refl _⟩, HB, HU, HR, HS⟩
 case round =>
  clear HS HB HU HR
  obtain ⟨l, r, vb, f, HM, HB, HU, HR, HS⟩ := hrel
  obtain ⟨A7, c7, e7⟩ := HS.out.form L.length (HN.out _ _)
  subst e7
  have x1 := (HS.out.box i (HI.out _ _)).cell 1 rfl
  rcases Nat.lt_or_ge l.length many with hl | hl
  case inr =>
   have e1 : decide ((l.length : Int) < (many : Int)) = false := dF (by omega)
   have e2 : decide (l.length < many) = false := dF (by omega)
   have hr : (l, r) = res := by
    have h := HR.out
    cases f with
    | zero => exact h
    | succ f => rw [rowR, if_neg (fun h2 => by omega)] at h; exact h
   clear HR
   subst hr
   go_wp2_with fail
   go_ret
   exact ⟨_, rfl, vb, HB.out, HS.out⟩
  case inl =>
   have e1 : decide ((l.length : Int) < (many : Int)) = true := dT (by omega)
   have e2 : decide (l.length < many) = true := dT hl
   have HF := aM (show ∃ f', f = f' + 1 by
    have := HM.out
    cases f with
    | zero => omega
    | succ f' => exact ⟨f', rfl⟩)
   obtain ⟨f', hf'⟩ := HF.out
   have HR2 := HR.out
   rw [hf', rowR] at HR2
   have HFF := aM hf'
   clear HR HF hf'
   cases hsh : r.short
   case true =>
    rw [hsh] at x1
    have hr : (l, r) = res := by rw [if_neg (fun h2 => by rw [hsh] at h2; cases h2.2)] at HR2; exact HR2
    clear HR2
    subst hr
    have HSH := aM hsh
    clear hsh
    go_wp2_with fail
    go_ret
    exact ⟨_, rfl, vb, HB.out, HS.out⟩
   case false =>
    rw [hsh] at x1
    rw [if_pos ⟨hl, hsh⟩] at HR2
    have HR3 := aM HR2
    clear HR2 hsh
    obtain ⟨p0, hp0, hp1⟩ := u8s_at (takeR_u8 1 HU.out).1 0 (by rw [takeR_len]; decide)
    obtain ⟨q, hq⟩ : ∃ q, q = takeR 1 r := ⟨_, rfl⟩
    have HQ := aM hq.symm
    have HONE := aM (show oneR r = ((p0 : Int), q.2) by unfold oneR; rw [hp0, hq])
    have HTL := aM (show q.1.length = 1 by rw [hq]; exact takeR_len 1 r)
    have HTU := aM (show U8s q.1 ∧ U8s q.2.b by rw [hq]; exact takeR_u8 1 HU.out)
    have HP := aM (show q.1.getD 0 0 = (p0 : Int) by rw [hq]; exact hp0)
    have HR4 := HR3.out
    rw [HONE.out] at HR4
    dsimp only at HR4
    have hp1' := hp1
    have hw0 : wrap64 (p0 : Int) = (p0 : Int) := IntWalk.wrap64_in _ (by omega)
    have hw1 : wrap64 ((many : Int) - (l.length : Int)) = (many : Int) - (l.length : Int) := IntWalk.wrap64_in _ (by omega)
    clear HR3 hq hp0
    have hdec : (((p0 : Int) == 0) = true ∨ (((p0 : Int) == 0) = false ∧ (many : Int) - (l.length : Int) < (p0 : Int))) ∧ ((p0 : Int) = 0 ∨ ((many - l.length : Nat) : Int) < (p0 : Int)) ∨ (((p0 : Int) == 0) = false ∧ ¬ (many : Int) - (l.length : Int) < (p0 : Int) ∧ ¬ ((p0 : Int) = 0 ∨ ((many - l.length : Nat) : Int) < (p0 : Int))) := by
     by_cases h0 : (p0 : Int) = 0
     ·exact .inl ⟨.inl (beq_iff_eq.2 h0), .inl h0⟩
     ·by_cases h1 : (many : Int) - (l.length : Int) < (p0 : Int)
      ·exact .inl ⟨.inr ⟨bF h0, h1⟩, .inr (by omega)⟩
      ·exact .inr ⟨bF h0, h1, by omega⟩
    rcases hdec with ⟨hbad, hcond⟩ | ⟨hz, hgt, hcond⟩
    case inl =>
     rw [if_pos hcond] at HR4
     clear hcond
     subst HR4
     rcases hbad with hz | ⟨hz, hgt⟩
     all_goals
      go_wp2_with (first
       | (go_at_call 31; (refine (take_calls X w0 _ _ i g vb r 1 HS.out (HI.out _ _) HB.out (by decide)).mono ?_); rintro ee w5 ⟨v5, rfl, hv, vb', hb', hs⟩; rw [HQ.out] at hv hb' hs; rw [HSI.out] at hs; obtain ⟨A5, c5, e5⟩ := PV.lenlit2 hv 1 HTL.out; subst e5; have HV := aM hv; have HB2 := aM hb'; clear HS hv hb' x1; have HS := aM hs; clear hs; obtain ⟨ad, cd, ed, ya⟩ := u8_cell HV.out 0 (by rw [HTL.out]; decide); rw [HTL.out] at ed; cases ed; change World.cell? _ ad = _ at ya; rw [HP.out] at ya; have z1 := (HS.out.box i (HI.out _ _)).cell 1 rfl; have f1 := (HS.out.box i (HI.out _ _)).open_ 1))
      go_ret
      have h1 := HS.out.set_box i (HI.out _ _) 1 (.bool true)
      rw [HSI.out] at h1
      have h2 := (h1.sub (List.sublist_append_left _ _)).push_nil kInt 3
      exact ⟨_, rfl, vb', HB2.out, h2⟩
    case inr =>
     rw [if_neg hcond] at HR4
     clear hcond
     have HR5 := aM HR4
     have h0 : ¬ (p0 : Int) = 0 := beq_eq_false_iff_ne.1 hz
     have HPP := aM (show 1 ≤ p0 ∧ p0 < 1000 ∧ l.length + p0 ≤ many by omega)
     clear h0
     obtain ⟨⟨xr, r2⟩, hrd⟩ : ∃ p, p = oneR q.2 := ⟨_, rfl⟩
     have HRD := aM hrd.symm
     have HRU := aM (show U8s r2.b by have h : U8s (oneR q.2).2.b := (takeR_u8 1 HTU.out.2).2; rw [← hrd] at h; exact h)
     clear HR4 hrd hp1 hp1'
     have HL7 := aM (show l.length ≤ 1000 by omega)
     go_wp2_with (first
      | (go_at_call 31; (refine (take_calls X w0 _ _ i g vb r 1 HS.out (HI.out _ _) HB.out (by decide)).mono ?_); rintro ee w5 ⟨v5, rfl, hv, vb', hb', hs⟩; rw [HQ.out] at hv hb' hs; rw [HSI.out] at hs; obtain ⟨A5, c5, e5⟩ := PV.lenlit2 hv 1 HTL.out; subst e5; have HV := aM hv; have HB2 := aM hb'; clear HS hv hb' x1; have HS := aM hs; clear hs; obtain ⟨ad, cd, ed, ya⟩ := u8_cell HV.out 0 (by rw [HTL.out]; decide); rw [HTL.out] at ed; cases ed; change World.cell? _ ad = _ at ya; rw [HP.out] at ya)
      | (go_at_call 30; (refine (rd1_calls X w0 _ _ i j g gp vb' q.2 HS.out (HI.out _ _) (HJ.out _ _) HB2.out HTU.out.2).mono ?_); rintro ee w6 ⟨rfl, vb3, hb3, hs⟩; rw [HRD.out] at hb3 hs ⊢; rw [HSI.out] at hs; have HB3 := aM hb3; clear HS hb3 ya; have HS := aM hs; clear hs)
      | ((with_reducible refine gate_dst (N := 41) rfl ?_); refine slit kInt 3 ?hg (N := 41) ?hd (xs := [xr]) (inner := [.int .i64 xr]) ?hr HS.out ?hp (by simp) ?_; (case hd => rfl); (case hg => rfl); (case hr => first | (go_simp; done) | (go_simp; rfl)); (case hp => exact Reps.one (PK.scalar _) (Reps.none _ _)); clear HS; intro v30 w30 hs; have HS := aM hs; clear hs)
      | (go_at_call 47; (refine (repeat_calls X w0 _ _ _ xr p0 HS.out (HS.out.ro _ List.getElem?_concat_length) ⟨HPP.out.1, HPP.out.2.1⟩).mono ?_); rintro ee w7 ⟨v43, rfl, hs⟩; obtain ⟨A43, c43, e43⟩ := hs.rform _ List.getElem?_concat_length; subst e43; rw [List.length_replicate] at hs; clear HS; have HS := aM hs; clear hs)
      | ((with_reducible refine gate_builtin (b := .append) (xs := #[.tmp 38, .tmp 43]) rfl ?_); at_builtin; refine sgrow kInt L.length rfl (.tmp 38) (.tmp 43) 26 3 (.int .i64 0) 8 rfl Tryz.underlying26 info3' rfl (by decide) (by omega) _ _ l (List.replicate p0 xr) rfl rfl HS.out (lr_n3 L i _ _ _ _) (HS.out.ro _ List.getElem?_concat_length) (by have h1 := HPP.out; have h2 := HL7.out; rw [List.length_replicate]; omega) ?_; intro v1 w1 hs; rw [lr_set3] at hs; have hs2 := hs.sub ((List.sublist_append_left _ _).trans (List.sublist_append_left _ _)); clear HS hs; have HS := aM hs2; clear hs2))
     go_roundg (many - (l.length + p0))
     case measure => have := HPP.out; have := HM.out; omega
     case rel =>
      have h1 := HPP.out
      have h2 := HM.out
      have h3 := HR5.out
      have h4 := HFF.out
      rw [HRD.out] at h3
      refine ⟨l ++ List.replicate p0 xr, r2, vb3, f', ⟨?_, ?_⟩, HB3, HRU, ⟨?_⟩, HS⟩
      ·rw [lA, List.length_replicate]; omega
      ·omega
      ·rw [← h3]; simp
set_option maxHeartbeats 16000000 in
theorem row2_calls (X : Nat → Prop) (w0 w : World) (L : List PX.Item) (i j g gp : Nat) (vb : Value) (r : Rd) (many : Nat) (hs : Sep X w0 w L) (hij : i ≠ j) (hi : L[i]? = some (.box g 62 [vb, .bool r.short])) (hj : L[j]? = some (.box gp 60 [.pointer (some ⟨g, 0, none⟩)])) (hb : PV kU8 X w0 vb r.b) (hu : U8s r.b) (hm : many ≤ 1000) :
  Calls Tryz.prog 29 #[.pointer (some ⟨g, 0, none⟩), .int .i64 many, .func (.func 33) #[] #[.pointer (some ⟨gp, 0, none⟩)]] w fun e w' => ∃ v, e = .returned v ∧ ∃ vb', PV kU8 X w0 vb' (rowR twoM many many [] r).2.b ∧ Sep X w0 w' (L.set i (.box g 62 [vb', .bool (rowR twoM many many [] r).2.short]) ++ [.row kInt 3 v (rowR twoM many many [] r).1]) := by
 have hlt : i < L.length := (List.getElem?_eq_some_iff.1 hi).1
 have HI := aM (lr_i L i hlt)
 have HJ := aM (lr_j L i hlt j hij _ hj)
 have HN := aM (lr_n L i hlt)
 have HSI := aM (lr_set L i hlt)
 have HSN := aM (lr_setn L i hlt)
 have eg : ∀ args w, (callFunc 33 args).run Tryz.prog w = .ok (.enter 33 args) w := fun args w => enters_ Tryz.func33 rfl rfl args w
 have hs2 : Sep X w0 w (L.set i (.box g 62 [vb, .bool r.short]) ++ [.row kInt 3 (.slice none 0 0) []]) := by
  rw [show L.set i (.box g 62 [vb, .bool r.short]) = L from by
   obtain ⟨h1, h2⟩ := List.getElem?_eq_some_iff.1 hi
   rw [← h2]; exact List.set_getElem_self h1]
  exact hs.push_nil kInt 3
 obtain ⟨res, hres⟩ : ∃ q, q = rowR twoM many many [] r := ⟨_, rfl⟩
 rw [← hres]
 have HR := aM hres.symm
 have HS := aM hs2
 have HB := aM hb
 have HU := aM hu
 clear hs hi hj hb hu hs2 hres hij
 go_enter Tryz.func29, Tryz.ntmps29
 go_wp2_with fail
 go_loopg [7, 8] many (fun m v7 v8 w' => ∃ (l : List Int) (r : Rd) (vb : Value) (f : Nat), Aside0 (l.length + m = many ∧ m ≤ f) ∧ Aside0 (PV kU8 X w0 vb r.b) ∧ Aside0 (U8s r.b) ∧ Aside0 (rowR twoM many f l r = res) ∧ Aside0 (Sep X w0 w' (L.set i (.box g 62 [vb, .bool r.short]) ++ [.row kInt 3 v7 l])))
 case atStart => exact ⟨[], r, vb, many, ⟨by simp, Nat.le_refl _⟩, HB, HU, HR, HS⟩
 case round =>
  clear HS HB HU HR
  obtain ⟨l, r, vb, f, HM, HB, HU, HR, HS⟩ := hrel
  obtain ⟨A7, c7, e7⟩ := HS.out.form L.length (HN.out _ _)
  subst e7
  have x1 := (HS.out.box i (HI.out _ _)).cell 1 rfl
  rcases Nat.lt_or_ge l.length many with hl | hl
  case inr =>
   have e1 : decide ((l.length : Int) < (many : Int)) = false := dF (by omega)
   have e2 : decide (l.length < many) = false := dF (by omega)
   have hr : (l, r) = res := by
    have h := HR.out
    cases f with
    | zero => exact h
    | succ f => rw [rowR, if_neg (fun h2 => by omega)] at h; exact h
   clear HR
   subst hr
   go_wp2_with fail
   go_ret
   exact ⟨_, rfl, vb, HB.out, HS.out⟩
  case inl =>
   have e1 : decide ((l.length : Int) < (many : Int)) = true := dT (by omega)
   have e2 : decide (l.length < many) = true := dT hl
   have HF := aM (show ∃ f', f = f' + 1 by
    have := HM.out
    cases f with
    | zero => omega
    | succ f' => exact ⟨f', rfl⟩)
   obtain ⟨f', hf'⟩ := HF.out
   have HR2 := HR.out
   rw [hf', rowR] at HR2
   have HFF := aM hf'
   clear HR HF hf'
   cases hsh : r.short
   case true =>
    rw [hsh] at x1
    have hr : (l, r) = res := by rw [if_neg (fun h2 => by rw [hsh] at h2; cases h2.2)] at HR2; exact HR2
    clear HR2
    subst hr
    have HSH := aM hsh
    clear hsh
    go_wp2_with fail
    go_ret
    exact ⟨_, rfl, vb, HB.out, HS.out⟩
   case false =>
    rw [hsh] at x1
    rw [if_pos ⟨hl, hsh⟩] at HR2
    have HR3 := aM HR2
    clear HR2 hsh
    obtain ⟨p0, hp0, hp1⟩ := u8s_at (takeR_u8 1 HU.out).1 0 (by rw [takeR_len]; decide)
    obtain ⟨q, hq⟩ : ∃ q, q = takeR 1 r := ⟨_, rfl⟩
    have HQ := aM hq.symm
    have HONE := aM (show oneR r = ((p0 : Int), q.2) by unfold oneR; rw [hp0, hq])
    have HTL := aM (show q.1.length = 1 by rw [hq]; exact takeR_len 1 r)
    have HTU := aM (show U8s q.1 ∧ U8s q.2.b by rw [hq]; exact takeR_u8 1 HU.out)
    have HP := aM (show q.1.getD 0 0 = (p0 : Int) by rw [hq]; exact hp0)
    have HR4 := HR3.out
    rw [HONE.out] at HR4
    dsimp only at HR4
    have hp1' := hp1
    have hw0 : wrap64 (p0 : Int) = (p0 : Int) := IntWalk.wrap64_in _ (by omega)
    have hw1 : wrap64 ((many : Int) - (l.length : Int)) = (many : Int) - (l.length : Int) := IntWalk.wrap64_in _ (by omega)
    clear HR3 hq hp0
    have hdec : (((p0 : Int) == 0) = true ∨ (((p0 : Int) == 0) = false ∧ (many : Int) - (l.length : Int) < (p0 : Int))) ∧ ((p0 : Int) = 0 ∨ ((many - l.length : Nat) : Int) < (p0 : Int)) ∨ (((p0 : Int) == 0) = false ∧ ¬ (many : Int) - (l.length : Int) < (p0 : Int) ∧ ¬ ((p0 : Int) = 0 ∨ ((many - l.length : Nat) : Int) < (p0 : Int))) := by
     by_cases h0 : (p0 : Int) = 0
     ·exact .inl ⟨.inl (beq_iff_eq.2 h0), .inl h0⟩
     ·by_cases h1 : (many : Int) - (l.length : Int) < (p0 : Int)
      ·exact .inl ⟨.inr ⟨bF h0, h1⟩, .inr (by omega)⟩
      ·exact .inr ⟨bF h0, h1, by omega⟩
    rcases hdec with ⟨hbad, hcond⟩ | ⟨hz, hgt, hcond⟩
    case inl =>
     rw [if_pos hcond] at HR4
     clear hcond
     subst HR4
     rcases hbad with hz | ⟨hz, hgt⟩
     all_goals
      go_wp2_with (first
       | (go_at_call 31; (refine (take_calls X w0 _ _ i g vb r 1 HS.out (HI.out _ _) HB.out (by decide)).mono ?_); rintro ee w5 ⟨v5, rfl, hv, vb', hb', hs⟩; rw [HQ.out] at hv hb' hs; rw [HSI.out] at hs; obtain ⟨A5, c5, e5⟩ := PV.lenlit2 hv 1 HTL.out; subst e5; have HV := aM hv; have HB2 := aM hb'; clear HS hv hb' x1; have HS := aM hs; clear hs; obtain ⟨ad, cd, ed, ya⟩ := u8_cell HV.out 0 (by rw [HTL.out]; decide); rw [HTL.out] at ed; cases ed; change World.cell? _ ad = _ at ya; rw [HP.out] at ya; have z1 := (HS.out.box i (HI.out _ _)).cell 1 rfl; have f1 := (HS.out.box i (HI.out _ _)).open_ 1))
      go_ret
      have h1 := HS.out.set_box i (HI.out _ _) 1 (.bool true)
      rw [HSI.out] at h1
      have h2 := (h1.sub (List.sublist_append_left _ _)).push_nil kInt 3
      exact ⟨_, rfl, vb', HB2.out, h2⟩
    case inr =>
     rw [if_neg hcond] at HR4
     clear hcond
     have HR5 := aM HR4
     have h0 : ¬ (p0 : Int) = 0 := beq_eq_false_iff_ne.1 hz
     have HPP := aM (show 1 ≤ p0 ∧ p0 < 1000 ∧ l.length + p0 ≤ many by omega)
     clear h0
     obtain ⟨⟨xr, r2⟩, hrd⟩ : ∃ p, p = twoM q.2 := ⟨_, rfl⟩
     have HRD := aM hrd.symm
     have HRU := aM (show U8s r2.b by have h : U8s (twoM q.2).2.b := (takeR_u8 2 HTU.out.2).2; rw [← hrd] at h; exact h)
     clear HR4 hrd hp1 hp1'
     have HL7 := aM (show l.length ≤ 1000 by omega)
     go_wp2_with (first
      | (go_at_call 31; (refine (take_calls X w0 _ _ i g vb r 1 HS.out (HI.out _ _) HB.out (by decide)).mono ?_); rintro ee w5 ⟨v5, rfl, hv, vb', hb', hs⟩; rw [HQ.out] at hv hb' hs; rw [HSI.out] at hs; obtain ⟨A5, c5, e5⟩ := PV.lenlit2 hv 1 HTL.out; subst e5; have HV := aM hv; have HB2 := aM hb'; clear HS hv hb' x1; have HS := aM hs; clear hs; obtain ⟨ad, cd, ed, ya⟩ := u8_cell HV.out 0 (by rw [HTL.out]; decide); rw [HTL.out] at ed; cases ed; change World.cell? _ ad = _ at ya; rw [HP.out] at ya)
      | (go_at_call 33; (refine (rd2_calls X w0 _ _ i j g gp vb' q.2 HS.out (HI.out _ _) (HJ.out _ _) HB2.out HTU.out.2).mono ?_); rintro ee w6 ⟨rfl, vb3, hb3, hs⟩; rw [HRD.out] at hb3 hs ⊢; rw [HSI.out] at hs; have HB3 := aM hb3; clear HS hb3 ya; have HS := aM hs; clear hs)
      | ((with_reducible refine gate_dst (N := 41) rfl ?_); refine slit kInt 3 ?hg (N := 41) ?hd (xs := [xr]) (inner := [.int .i64 xr]) ?hr HS.out ?hp (by simp) ?_; (case hd => rfl); (case hg => rfl); (case hr => first | (go_simp; done) | (go_simp; rfl)); (case hp => exact Reps.one (PK.scalar _) (Reps.none _ _)); clear HS; intro v30 w30 hs; have HS := aM hs; clear hs)
      | (go_at_call 47; (refine (repeat_calls X w0 _ _ _ xr p0 HS.out (HS.out.ro _ List.getElem?_concat_length) ⟨HPP.out.1, HPP.out.2.1⟩).mono ?_); rintro ee w7 ⟨v43, rfl, hs⟩; obtain ⟨A43, c43, e43⟩ := hs.rform _ List.getElem?_concat_length; subst e43; rw [List.length_replicate] at hs; clear HS; have HS := aM hs; clear hs)
      | ((with_reducible refine gate_builtin (b := .append) (xs := #[.tmp 38, .tmp 43]) rfl ?_); at_builtin; refine sgrow kInt L.length rfl (.tmp 38) (.tmp 43) 26 3 (.int .i64 0) 8 rfl Tryz.underlying26 info3' rfl (by decide) (by omega) _ _ l (List.replicate p0 xr) rfl rfl HS.out (lr_n3 L i _ _ _ _) (HS.out.ro _ List.getElem?_concat_length) (by have h1 := HPP.out; have h2 := HL7.out; rw [List.length_replicate]; omega) ?_; intro v1 w1 hs; rw [lr_set3] at hs; have hs2 := hs.sub ((List.sublist_append_left _ _).trans (List.sublist_append_left _ _)); clear HS hs; have HS := aM hs2; clear hs2))
     go_roundg (many - (l.length + p0))
     case measure => have := HPP.out; have := HM.out; omega
     case rel =>
      have h1 := HPP.out
      have h2 := HM.out
      have h3 := HR5.out
      have h4 := HFF.out
      rw [HRD.out] at h3
      refine ⟨l ++ List.replicate p0 xr, r2, vb3, f', ⟨?_, ?_⟩, HB3, HRU, ⟨?_⟩, HS⟩
      ·rw [lA, List.length_replicate]; omega
      ·omega
      ·rw [← h3]; simp
end Go.Proofs.YtplhfgobeicegaaGreatDoor.P
namespace Go.Proofs.YtplhfgobeicegaaGreatDoor.P
open Go Go.RowKit Go.Proofs.YtplhfgobeicegaaGreatDoorW.PrintWords Go.Proofs.YtplhfgobeicegaaGreatDoorW.PrintLast Go.Proofs.YtplhfgobeicegaaGreatDoorW.PrintMore Go.Proofs.YtplhfgobeicegaaGreatDoor.PX
set_option linter.unusedVariables false
set_option linter.unusedSimpArgs false
set_option maxRecDepth 100000
def Pred (g : Nat) (lb : Array Value) (p : Int → Bool) (w : World) : Prop := ∀ (W : World) (x : Int), Below w.heap.size w W → Calls Tryz.prog g (#[.int .i64 x] ++ lb) W fun e w' => e = .returned (.bool (p x)) ∧ Below W.heap.size W w'
def idxGo (p : Int → Bool) : List Int → Nat → Int
 | [], _ => -1
 | x :: t, i => if p x then (i : Int) else idxGo p t (i + 1)
theorem idxGo_any (p : Int → Bool) : ∀ (l : List Int) (i : Nat), l.any p = decide (0 ≤ idxGo p l i)
 | [], i => by simp [idxGo]
 | x :: t, i => by
  rw [List.any_cons, idxGo]
  cases h : p x
  ·simp only [Bool.false_or, Bool.false_eq_true, if_false]
   exact idxGo_any p t (i + 1)
  ·simp
set_option maxHeartbeats 8000000 in
theorem indexFunc_calls (X : Nat → Prop) (v : Value) (xs : List Int) (w : World) (hv : PV kInt X w v xs) (g : Nat) (lb : Array Value) (eg : ∀ args w, (callFunc g args).run Tryz.prog w = .ok (.enter g args) w) (p : Int → Bool) (hp : Pred g lb p w) :
  Calls Tryz.prog 54 #[v, .func (.func g) #[] lb] w fun e w' => e = .returned (.int .i64 (idxGo p xs 0)) ∧ Below w.heap.size w w' := by
 have H1 := aM hv
 have HP := aM hp
 have m1 := hv.max
 obtain ⟨A0, c0, rfl, _, _⟩ := hv.now
 obtain ⟨q, hq⟩ : ∃ q, q = idxGo p xs 0 := ⟨_, rfl⟩
 rw [← hq]
 have HQ := aM (show idxGo p (xs.drop 0) 0 = q from hq.symm)
 clear hv hp hq
 go_enter Tryz.func54, Tryz.ntmps54
 go_wp2_with fail
 go_loopg [5, 8] xs.length (fun m v5 v8 w' => ∃ (i : Nat), v8 = .int .i64 i ∧ Aside0 (i + m = xs.length) ∧ Aside0 (idxGo p (xs.drop i) i = q) ∧ Aside0 (Below w.heap.size w w'))
 case atStart => exact ⟨0, rfl, ⟨by omega⟩, HQ, ⟨Below.refl _ _⟩⟩
 case round =>
  clear HQ
  obtain ⟨i, rfl, HJ, HQ, HB⟩ := hrel
  cases gk with
  | zero =>
   have hi : i = xs.length := by have := HJ.out; omega
   have e1 : decide ((i : Int) < (xs.length : Int)) = false := dF (by omega)
   have e2 : decide (i < xs.length) = false := dF (by omega)
   have q0 : (-1 : Int) = q := by have h := HQ.out; rwa [hi, List.drop_length, idxGo] at h
   clear HQ hi
   subst q0
   go_wp2_with fail
   go_ret
   exact ⟨rfl, HB.out⟩
  | succ k1 =>
   have hi : i < xs.length := by have := HJ.out; omega
   have e1 : decide ((i : Int) < (xs.length : Int)) = true := dT (by omega)
   have e2 : decide (i < xs.length) = true := dT hi
   have hi0 : (0 : Int) ≤ (i : Int) := by omega
   have hi1 : (i : Int) < (xs.length : Int) := by omega
   obtain ⟨ad, c, e, y0⟩ := int_cell H1.out i hi
   cases e
   have y := pw_cell_below HB.out y0
   have h := HQ.out
   rw [drop_at xs 0 i hi, idxGo] at h
   generalize xs.getD i 0 = x at *
   have hcall := HP.out _ x HB.out
   clear y0 HQ
   cases hpx : p x
   case true =>
    rw [hpx, if_pos rfl] at h
    subst h
    rw [hpx] at hcall
    have HCALL := aM hcall
    clear hcall
    go_wp2_with fail
    refine HCALL.out.mono ?_
    rintro e w' ⟨rfl, hb'⟩
    go_wp2_with fail
    go_ret
    exact ⟨rfl, below_step HB.out hb'⟩
   case false =>
    rw [hpx, if_neg (by decide)] at h
    rw [hpx] at hcall
    have HCALL := aM hcall
    have HQ := aM h
    clear hcall h
    go_wp2_with fail
    refine HCALL.out.mono ?_
    rintro e w' ⟨rfl, hb'⟩
    go_wp2_with fail
    go_roundg k1
    case measure => omega
    case rel => exact ⟨i + 1, by go_num, ⟨by have := HJ.out; omega⟩, HQ, ⟨below_step HB.out hb'⟩⟩
theorem containsFunc_calls (X : Nat → Prop) (v : Value) (xs : List Int) (w : World) (hv : PV kInt X w v xs) (g : Nat) (lb : Array Value) (eg : ∀ args w, (callFunc g args).run Tryz.prog w = .ok (.enter g args) w) (p : Int → Bool) (hp : Pred g lb p w) :
  Calls Tryz.prog 44 #[v, .func (.func g) #[] lb] w fun e w' => e = .returned (.bool (xs.any p)) ∧ Below w.heap.size w w' := by
 rw [idxGo_any p xs 0]
 have H1 := aM hv
 have HP := aM hp
 obtain ⟨A0, c0, rfl, _, _⟩ := hv.now
 clear hv hp
 go_enter Tryz.func44, Tryz.ntmps44
 go_wp2_with (first
  | (go_at_call 54; (with_reducible refine (indexFunc_calls X _ xs w H1.out g lb eg p HP.out).mono ?_); rintro ee w5 ⟨rfl, hb⟩))
 go_ret
 exact ⟨rfl, hb⟩
def oddB (k : Nat) (x : Int) : Bool := decide (x < -1) || decide ((k : Int) ≤ x)
theorem odd14_pred (k B : Nat) (w : World) (hB : B < w.heap.size) (hc : w.cell? ⟨B, 0, none⟩ = some (.int .i64 k)) : Pred 43 #[.pointer (some ⟨B, 0, none⟩)] (oddB k) w := fun W x hb => by
 have hc : W.cell? ⟨B, 0, none⟩ = some (.int .i64 k) := (hb.cell (p := ⟨B, 0, none⟩) hB).trans hc
 show Calls Tryz.prog 43 #[.int .i64 x, .pointer (some ⟨B, 0, none⟩)] W _
 unfold oddB
 go_enter Tryz.func43, Tryz.ntmps43
 go_wp2
 all_goals (go_ret; refine ⟨by simp_all, Below.refl _ _⟩)
end Go.Proofs.YtplhfgobeicegaaGreatDoor.P
namespace Go.Proofs.YtplhfgobeicegaaGreatDoor.P
open Go Go.RowKit Go.Proofs.YtplhfgobeicegaaGreatDoorW.PrintWords Go.Proofs.YtplhfgobeicegaaGreatDoorW.PrintLast Go.Proofs.YtplhfgobeicegaaGreatDoorW.PrintMore Go.Proofs.YtplhfgobeicegaaGreatDoor.PX
set_option linter.unusedVariables false
set_option linter.unusedSimpArgs false
set_option maxRecDepth 100000
theorem any_odd (k : Nat) (row : List Int) : row.any (oddB k) = false ↔ ∀ j, j < row.length → -1 ≤ row.getD j 0 ∧ row.getD j 0 < (k : Int) := by
 rw [List.any_eq_false]
 constructor
 ·intro h j hj
  have h1 := h _ (mem_getD row 0 j hj)
  simp only [oddB, Bool.or_eq_true, decide_eq_true_eq, not_or] at h1
  omega
 ·intro h x hx
  obtain ⟨j, hj, rfl⟩ := List.getElem_of_mem hx
  have h1 := h j hj
  rw [List.getD_eq_getElem?_getD, List.getElem?_eq_getElem hj] at h1
  simp only [Option.getD_some] at h1
  simp only [oddB, Bool.or_eq_true, decide_eq_true_eq, not_or]
  omega
end Go.Proofs.YtplhfgobeicegaaGreatDoor.P
namespace Go.Proofs.YtplhfgobeicegaaGreatDoor.P
open Go Go.RowKit Go.Proofs.YtplhfgobeicegaaGreatDoorW.PrintWords Go.Proofs.YtplhfgobeicegaaGreatDoorW.PrintLast Go.Proofs.YtplhfgobeicegaaGreatDoorW.PrintMore Go.Proofs.YtplhfgobeicegaaGreatDoor.PX
set_option linter.unusedVariables false
set_option linter.unusedSimpArgs false
set_option maxRecDepth 100000
set_option maxHeartbeats 8000000 in
theorem clmany_calls (X : Nat → Prop) (vl : Value) (l : List Int) (w : World) (hl : PV kU8 X w vl l) (hu : U8s l) :
  Calls Tryz.prog 42 #[vl] w fun e w' => e = .returned (.int .i64 (many14 l)) ∧ Below w.heap.size w w' := by
 have H1 := aM hl
 have HU := aM hu
 have m1 := hl.max
 obtain ⟨An, cn, rfl, _, _⟩ := hl.now
 obtain ⟨r, hr⟩ : ∃ r, r = many14 l := ⟨_, rfl⟩
 rw [← hr]
 clear hl hu
 rcases Nat.decEq l.length 256 with h | h
 case isFalse =>
  have d1 : ((l.length : Int) == 256) = false := bF (by omega)
  have d1' : ((l.length : Int) != 256) = true := bne_iff_ne.mpr (by omega)
  have q1 : r = 0 := by rw [hr, many14, if_pos (.inr h)]
  clear hr h
  subst q1
  go_enter Tryz.func42, Tryz.ntmps42
  go_wp2_with fail
  go_ret
  exact ⟨rfl, Below.refl _ _⟩
 case isTrue =>
  have d1 : ((l.length : Int) == 256) = true := beq_iff_eq.mpr (by omega)
  have d1' : ((l.length : Int) != 256) = false := bne_eq_false_iff_eq.mpr (by omega)
  obtain ⟨g, hg⟩ : ∃ g, g = manyGo l 0 := ⟨_, rfl⟩
  have HR := aM (show r = if g = -1 then 0 else g by rw [hr, many14, ← hg]; by_cases c : g = -1 <;> simp [c, h])
  have HG := aM (show manyGo (l.drop 0) 0 = g from hg.symm)
  have HL := aM h
  clear hr hg h
  go_enter Tryz.func42, Tryz.ntmps42
  go_wp2_with fail
  clear d1 d1'
  go_loopg [3, 11] l.length (fun m v3 v11 w' => ∃ (i : Nat) (n : Int), v3 = .int .i64 n ∧ v11 = .int .i64 i ∧ Aside0 (i + m = l.length) ∧ (0 ≤ n ∧ n ≤ 256) ∧ Aside0 (manyGo (l.drop i) n = g) ∧ Aside0 (Below w.heap.size w w'))
  case atStart => exact ⟨0, 0, rfl, rfl, ⟨by omega⟩, by omega, HG, ⟨Below.refl _ _⟩⟩
  case round =>
   clear HG
   obtain ⟨i, n, rfl, rfl, HJ, ⟨hn0, hn1⟩, HG, HB⟩ := hrel
   cases gk with
   | zero =>
    have e1 : decide ((i : Int) < (l.length : Int)) = false := dF (by have := HJ.out; omega)
    have e2 : decide (i < l.length) = false := dF (by have := HJ.out; omega)
    have q0 : n = g := by have h := HG.out; rw [List.drop_of_length_le (by have := HJ.out; omega)] at h; exact h
    subst q0
    have q1 : r = n := by rw [HR.out, if_neg (by omega)]
    clear HR HG
    subst q1
    go_wp2_with fail
    go_ret
    exact ⟨rfl, HB.out⟩
   | succ k1 =>
    have hi : i < l.length := by have := HJ.out; omega
    have e1 : decide ((i : Int) < (l.length : Int)) = true := dT (by omega)
    have e2 : decide (i < l.length) = true := dT hi
    have hi0 : (0 : Int) ≤ (i : Int) := by omega
    have hi1 : (i : Int) < (l.length : Int) := by omega
    obtain ⟨c, hc, hc2⟩ := u8s_at HU.out i hi
    obtain ⟨as_, cs', es, ys0⟩ := u8_cell H1.out i hi
    cases es
    rw [hc] at ys0
    have ys := pw_cell_below HB.out ys0
    have HR3 := HG.out
    rw [drop_at l 0 i hi, hc, manyGo] at HR3
    clear hc ys0 HG
    rcases Int.lt_or_le n c with h | h
    case inl =>
     have d1 : decide ((c : Int) > n) = true := dT h
     have d1' : decide (n < (c : Int)) = true := dT h
     rw [if_pos h] at HR3
     have q1 : r = 0 := by rw [HR.out, if_pos HR3.symm]
     clear HR HR3
     subst q1
     go_wp2_with fail
     go_ret
     exact ⟨rfl, HB.out⟩
    case inr =>
     have d1 : decide ((c : Int) > n) = false := dF (by omega)
     have d1' : decide (n < (c : Int)) = false := dF (by omega)
     rw [if_neg (by omega)] at HR3
     rcases Int.lt_or_le c n with h2 | h2
     case inl =>
      have d2 : ((c : Int) == n) = false := bF (by omega)
      rw [show max n ((c : Int) + 1) = n by omega] at HR3
      have HR4 := aM HR3
      clear HR3
      go_wp2_with fail
      go_roundg k1
      case measure => omega
      case rel => exact ⟨i + 1, n, rfl, by go_num, ⟨by have := HJ.out; omega⟩, by omega, HR4, HB⟩
     case inr =>
      have d2 : ((c : Int) == n) = true := beq_iff_eq.mpr (by omega)
      rw [show max n ((c : Int) + 1) = n + 1 by omega] at HR3
      have HR4 := aM HR3
      clear HR3
      go_wp2_with fail
      go_roundg k1
      case measure => omega
      case rel => exact ⟨i + 1, n + 1, by go_num, by go_num, ⟨by have := HJ.out; omega⟩, by omega, HR4, HB⟩
end Go.Proofs.YtplhfgobeicegaaGreatDoor.P
namespace Go.Proofs.YtplhfgobeicegaaGreatDoor.IT
def dig (d : Nat) : Int := if d < 10 then 48 + (d : Int) else 87 + (d : Int)
def digs : Nat → Nat → List Int
 | 0, n => [dig n]
 | k + 1, n => if n < 36 then [dig n] else digs k (n / 36) ++ [dig (n % 36)]
def itoa (n : Int) : List Int := if n < 0 then 45 :: digs 13 n.natAbs else digs 13 n.natAbs
def undig (d : Int) : Nat := if d < 58 then (d - 48).toNat else (d - 87).toNat
theorem undig_dig (d : Nat) (h : d < 36) : undig (dig d) = d := by
 unfold undig dig
 split <;> split <;> omega
def val (l : List Int) : Nat := l.foldl (fun a d => a * 36 + undig d) 0
theorem val_snoc (l : List Int) (d : Int) : val (l ++ [d]) = val l * 36 + undig d := by unfold val; rw [List.foldl_append]; rfl
theorem val_digs : ∀ (k n : Nat), n < 36 ^ (k + 1) → val (digs k n) = n
 | 0, n, h => by
  simp only [digs, val, List.foldl_cons, List.foldl_nil]
  rw [undig_dig n (by simpa using h)]; omega
 | k + 1, n, h => by
  unfold digs
  split
  ·simp only [val, List.foldl_cons, List.foldl_nil]
   rw [undig_dig n (by omega)]; omega
  ·rw [val_snoc, val_digs k (n / 36) (by rw [Nat.div_lt_iff_lt_mul (by decide)]; rw [Nat.pow_succ] at h; exact h), undig_dig _ (Nat.mod_lt _ (by decide))]
   omega
theorem dig_range (d : Nat) (h : d < 36) : 48 ≤ dig d ∧ dig d ≤ 122 := by unfold dig; split <;> omega
theorem digs_range : ∀ (k n : Nat), n < 36 ^ (k + 1) → ∀ x ∈ digs k n, 48 ≤ x ∧ x ≤ 122
 | 0, n, h, x, hx => by
  simp only [digs, List.mem_singleton] at hx
  subst hx
  exact dig_range n (by simpa using h)
 | k + 1, n, h, x, hx => by
  unfold digs at hx
  split at hx
  ·simp only [List.mem_singleton] at hx
   subst hx
   exact dig_range n (by omega)
  ·rcases List.mem_append.1 hx with hx | hx
   ·exact digs_range k (n / 36) (by rw [Nat.div_lt_iff_lt_mul (by decide)]; rw [Nat.pow_succ] at h; exact h) x hx
   ·simp only [List.mem_singleton] at hx
    subst hx
    exact dig_range _ (Nat.mod_lt _ (by decide))
theorem digs_len : ∀ (k n : Nat), 1 ≤ (digs k n).length ∧ (digs k n).length ≤ k + 1
 | 0, n => by simp [digs]
 | k + 1, n => by
  unfold digs
  split
  ·simp
  ·have := digs_len k (n / 36)
   simp
   omega
def Fits (n : Int) : Prop := -9223372036854775808 ≤ n ∧ n ≤ 9223372036854775807
theorem pow13 (n : Int) (h : Fits n) : n.natAbs < 36 ^ (13 + 1) := by
 have : (36 : Nat) ^ (13 + 1) = 6140942214464815497216 := by decide
 unfold Fits at h
 omega
theorem itoa_range (n : Int) (h : Fits n) : ∀ x ∈ itoa n, 45 ≤ x ∧ x ≤ 122 := by
 intro x hx
 unfold itoa at hx
 split at hx
 ·rcases List.mem_cons.1 hx with rfl | hx
  ·omega
  ·have := digs_range 13 _ (pow13 n h) x hx; omega
 ·have := digs_range 13 _ (pow13 n h) x hx; omega
theorem itoa_len (n : Int) : 1 ≤ (itoa n).length ∧ (itoa n).length ≤ 15 := by
 unfold itoa
 have := digs_len 13 n.natAbs
 split
 ·rw [List.length_cons]; omega
 ·omega
theorem itoa_inj (a b : Int) (ha : Fits a) (hb : Fits b) (h : itoa a = itoa b) : a = b := by
 have va := val_digs 13 _ (pow13 a ha)
 have vb := val_digs 13 _ (pow13 b hb)
 have ra := digs_range 13 _ (pow13 a ha)
 have rb := digs_range 13 _ (pow13 b hb)
 unfold itoa at h
 split at h <;> split at h
 ·have := List.tail_eq_of_cons_eq h
  rw [this] at va
  omega
 ·have h1 : (45 : Int) ∈ digs 13 b.natAbs := by rw [← h]; exact List.mem_cons_self
  have := rb _ h1
  omega
 ·have h1 : (45 : Int) ∈ digs 13 a.natAbs := by rw [h]; exact List.mem_cons_self
  have := ra _ h1
  omega
 ·rw [h] at va
  omega
def colText : List Int → List Int
 | [] => []
 | x :: t => itoa x ++ 32 :: colText t
theorem split_at : ∀ (a b s t : List Int), (∀ x ∈ a, x ≠ 32) → (∀ x ∈ b, x ≠ 32) → a ++ 32 :: s = b ++ 32 :: t → a = b ∧ s = t
 | [], [], s, t, _, _, h => ⟨rfl, by simpa using h⟩
 | [], y :: b, s, t, _, hb, h => by
  exfalso
  simp only [List.nil_append, List.cons_append, List.cons.injEq] at h
  exact hb y List.mem_cons_self h.1.symm
 | x :: a, [], s, t, ha, _, h => by
  exfalso
  simp only [List.nil_append, List.cons_append, List.cons.injEq] at h
  exact ha x List.mem_cons_self h.1
 | x :: a, y :: b, s, t, ha, hb, h => by
  simp only [List.cons_append, List.cons.injEq] at h
  obtain ⟨h1, h2⟩ := split_at a b s t (fun z hz => ha z (List.mem_cons_of_mem _ hz)) (fun z hz => hb z (List.mem_cons_of_mem _ hz)) h.2
  exact ⟨by rw [h.1, h1], h2⟩
theorem colText_inj : ∀ (a b : List Int), (∀ x ∈ a, Fits x) → (∀ x ∈ b, Fits x) → colText a = colText b → a = b
 | [], [], _, _, _ => rfl
 | [], y :: b, _, hb, h => by
  exfalso
  have := congrArg List.length h
  simp [colText] at this
 | x :: a, [], _, _, h => by
  exfalso
  have := congrArg List.length h
  simp [colText] at this
 | x :: a, y :: b, ha, hb, h => by
  simp only [colText] at h
  have fx := ha x List.mem_cons_self
  have fy := hb y List.mem_cons_self
  obtain ⟨h1, h2⟩ := split_at _ _ _ _ (fun z hz => by have := itoa_range x fx z hz; omega) (fun z hz => by have := itoa_range y fy z hz; omega) h
  rw [itoa_inj x y fx fy h1, colText_inj a b (fun z hz => ha z (List.mem_cons_of_mem _ hz)) (fun z hz => hb z (List.mem_cons_of_mem _ hz)) h2]
theorem colText_len : ∀ (a : List Int), (colText a).length ≤ 16 * a.length
 | [] => by simp [colText]
 | x :: t => by
  have h1 := itoa_len x
  have h2 := colText_len t
  simp [colText]
  omega
theorem colText_bytes : ∀ (a : List Int), (∀ x ∈ a, Fits x) → ∀ x ∈ colText a, 0 ≤ x ∧ x ≤ 255
 | [], _, x, hx => by cases hx
 | y :: t, ha, x, hx => by
  simp only [colText] at hx
  rcases List.mem_append.1 hx with hx | hx
  ·have := itoa_range y (ha y List.mem_cons_self) x hx; omega
  ·rcases List.mem_cons.1 hx with rfl | hx
   ·omega
   ·exact colText_bytes t (fun z hz => ha z (List.mem_cons_of_mem _ hz)) x hx
theorem colText_snoc : ∀ (a : List Int) (x : Int), colText (a ++ [x]) = colText a ++ itoa x ++ [32]
 | [], x => by simp [colText]
 | y :: t, x => by simp [colText, colText_snoc t x]
end Go.Proofs.YtplhfgobeicegaaGreatDoor.IT
