/- Part 15 of the proof: S03b, S03c, U1. -/
import Derived.Test.YtplhfgobeicegaaGreatDoorPd6
namespace Go.Proofs.YtplhfgobeicegaaGreatDoor.P
open Go Go.RowKit Go.Proofs.YtplhfgobeicegaaGreatDoorW.PrintWords Go.Proofs.YtplhfgobeicegaaGreatDoorW.PrintLast Go.Proofs.YtplhfgobeicegaaGreatDoorW.PrintMore Go.Proofs.YtplhfgobeicegaaGreatDoor.PX
set_option linter.unusedVariables false
set_option linter.unusedSimpArgs false
set_option maxRecDepth 100000
abbrev Rg := S143
abbrev kRg := k143
abbrev kRgs : Kd (List Rg) := Kd.slice 143 kRg
def cutAt (a b : Int) : Nat → Int → Option Int
 | 0, _ => none
 | r + 1, m => if a / (m * 64) = b / (m * 64) then cutAt a b r (m * 64) else if a % (m * 64) ≠ 0 then some (a - a % (m * 64) + m * 64) else if b % (m * 64) ≠ m * 64 - 1 then some (b - b % (m * 64)) else cutAt a b r (m * 64)
def rowOf (a b : Int) (n : Nat) : List Rg := (List.range n).map (fun i => (⟨(encL a).getD i 0, (encL b).getD i 0⟩ : Rg))
def cutF : Nat → Int → Int → Nat → List (List Rg)
 | 0, _, _, _ => []
 | f + 1, a, b, n => match cutAt a b (n - 1) 1 with
  | none => [rowOf a b n]
  | some x => cutF f a (x - 1) n ++ cutF f x b n
def CutOk (a b : Int) (n : Nat) : Prop := 0 ≤ a ∧ a ≤ b ∧ b ≤ 1114111 ∧ (b < 55296 ∨ 57343 < a) ∧ ((n = 1 ∧ b < 128) ∨ (n = 2 ∧ 128 ≤ a ∧ b < 2048) ∨ (n = 3 ∧ 2048 ≤ a ∧ b < 65536) ∨ (n = 4 ∧ 65536 ≤ a))
theorem cutAt_in (a b : Int) (h0 : 0 ≤ a) (h : a ≤ b) : ∀ (r : Nat) (m x : Int), 0 < m → cutAt a b r m = some x → a < x ∧ x ≤ b
 | 0, m, x, hm, hc => by cases hc
 | r + 1, m, x, hm, hc => by
  unfold cutAt at hc
  have hm2 : 0 < m * 64 := by omega
  generalize m * 64 = M at *
  have ha := Int.emod_add_mul_ediv a M
  have hb := Int.emod_add_mul_ediv b M
  have ha1 := Int.emod_nonneg a (show M ≠ 0 by omega)
  have hb1 := Int.emod_nonneg b (show M ≠ 0 by omega)
  have ha2 := Int.emod_lt_of_pos a hm2
  have hb2 := Int.emod_lt_of_pos b hm2
  have hle := Int.ediv_le_ediv hm2 h
  split at hc
  ·exact cutAt_in a b h0 h r M x hm2 hc
  ·next c =>
   have hlt : a / M + 1 ≤ b / M := by omega
   have hmul : M * (a / M + 1) ≤ M * (b / M) := Int.mul_le_mul_of_nonneg_left hlt (by omega)
   rw [Int.mul_add, Int.mul_one] at hmul
   split at hc
   ·obtain rfl := Option.some.inj hc
    omega
   ·split at hc
    ·obtain rfl := Option.some.inj hc
     omega
    ·exact cutAt_in a b h0 h r M x hm2 hc
theorem CutOk.left {a b x : Int} {n : Nat} (h : CutOk a b n) (hx : a < x ∧ x ≤ b) : CutOk a (x - 1) n := by unfold CutOk at *; omega
theorem CutOk.right {a b x : Int} {n : Nat} (h : CutOk a b n) (hx : a < x ∧ x ≤ b) : CutOk x b n := by unfold CutOk at *; omega
theorem cutF_len : ∀ (f : Nat) (a b : Int) (n : Nat), CutOk a b n → ((cutF f a b n).length : Int) ≤ b - a + 1
 | 0, a, b, n, h => by unfold CutOk at h; simp [cutF]; omega
 | f + 1, a, b, n, h => by
  unfold cutF
  split
  ·unfold CutOk at h; simp; omega
  ·next x hx =>
   have hx2 := cutAt_in a b h.1 h.2.1 _ _ _ (by decide) hx
   have h1 := cutF_len f a (x - 1) n (h.left hx2)
   have h2 := cutF_len f x b n (h.right hx2)
   rw [lA]
   omega
theorem enc_len {a b : Int} {n : Nat} (h : CutOk a b n) : (encL a).length = n ∧ (encL b).length = n := by
 unfold CutOk at h
 unfold encL
 rcases h with ⟨h0, h1, h2, h3, ⟨rfl, h4⟩ | ⟨rfl, h4, h5⟩ | ⟨rfl, h4, h5⟩ | ⟨rfl, h4⟩⟩
 ·rw [if_pos (by omega), if_pos (by omega)]; exact ⟨rfl, rfl⟩
 ·rw [if_neg (by omega), if_pos (by omega), if_neg (by omega), if_pos (by omega)]; exact ⟨rfl, rfl⟩
 ·rw [if_neg (by omega), if_neg (by omega), if_pos (by omega), if_neg (by omega), if_neg (by omega), if_pos (by omega)]; exact ⟨rfl, rfl⟩
 ·rw [if_neg (by omega), if_neg (by omega), if_neg (by omega), if_neg (by omega), if_neg (by omega), if_neg (by omega)]; exact ⟨rfl, rfl⟩
def CutC (f : Nat) : Prop := ∀ (X : Nat → Prop) (a b : Int) (n : Nat) (w : World), (∀ k, X k → k < w.heap.size) → CutOk a b n → b - a < (f : Int) →
  Calls Tryz.prog 84 #[.int .i64 a, .int .i64 b, .int .i64 (n : Int)] w fun e w' => ∃ v, e = .returned v ∧ Own kRgs 139 (Xp X v) w' w.heap.size v (cutF f a b n) ∧ Below w.heap.size w w'
set_option maxHeartbeats 4000000 in
theorem both_calls (f : Nat) (ih : CutC f) (X : Nat → Prop) (a x b : Int) (n : Nat) (w : World) (hX : ∀ k, X k → k < w.heap.size) (h1 : CutOk a (x - 1) n) (h2 : CutOk x b n) (l1 : x - 1 - a < (f : Int)) (l2 : b - x < (f : Int)) :
  Calls Tryz.prog 93 #[.int .i64 a, .int .i64 x, .int .i64 b, .int .i64 (n : Int)] w fun e w' => ∃ v, e = .returned v ∧ Own kRgs 139 (Xp X v) w' w.heap.size v (cutF f a (x - 1) n ++ cutF f x b n) ∧ Below w.heap.size w w' := by
 have HS := aM (Sep.start hX)
 have HA := aM (show CutOk a (x - 1) n ∧ CutOk x b n ∧ x - 1 - a < (f : Int) ∧ b - x < (f : Int) from ⟨h1, h2, l1, l2⟩)
 have HL := aM (show (cutF f a (x - 1) n).length + (cutF f x b n).length ≤ 2000000 by have := cutF_len f _ _ _ h1; have := cutF_len f _ _ _ h2; unfold CutOk at h1 h2; omega)
 have hx0 : 0 ≤ x := h2.1
 have hx1 : x ≤ 1114111 := by unfold CutOk at h2; omega
 unfold CutC at ih
 have IH := aM ih
 clear hX h1 h2 l1 l2 ih
 go_enter Tryz.func93, Tryz.ntmps93
 go_wp2_with (first
  | ((go_at_call 84; (with_reducible refine (IH.out _ a (x - 1) n _ HS.out.lt HA.out.1 HA.out.2.2.1).mono ?_)); rintro e w5 ⟨v5, rfl, hv, hb⟩; have hs := HS.out.push_row hb hv; clear HS hv hb; have HS := aM hs; clear hs)
  | ((go_at_call 84; (with_reducible refine (IH.out _ x b n _ HS.out.lt HA.out.2.1 HA.out.2.2.2).mono ?_)); rintro e w6 ⟨v6, rfl, hv, hb⟩; have hs := (HS.out.push_row hb hv).sealRo 1 rfl; clear HS hv hb; have HS := aM hs; clear hs)
  | ((with_reducible refine gate_builtin (b := .append) (xs := #[.tmp 20, .tmp 21]) rfl ?_); at_builtin; refine sgrow kRgs 0 rfl (.tmp 20) (.tmp 21) 111 139 (.slice none 0 0) 24 rfl Tryz.underlying111 info139 rfl (by decide) (by omega) _ _ (cutF f a (x - 1) n) (cutF f x b n) rfl rfl HS.out rfl (HS.out.ro 1 rfl) (by have := HL.out; omega) ?_; clear HS; intro v7 w7 hs; have HS := aM hs; clear hs))
 go_ret
 exact ⟨_, rfl, HS.out.res_own 0 rfl, HS.out.below⟩
theorem rg_rep (X : Nat → Prop) (w : World) (x y : Int) : Reps (PK kRg X w) (kRg).sz [(⟨x, y⟩ : Rg)] [.int .u8 x, .int .u8 y] :=
 (Reps.none _ _).snoc (c := [.int .u8 x, .int .u8 y]) (fun _ _ => k143_mk _ (⟨x, y⟩ : Rg)) rfl
theorem ro_cellk {k : IntKind} {X : Nat → Prop} {w0 w : World} {L : List PX.Item} {a : Addr} {c : Nat} {xs : List Int} {x : Int} (h : PX.Sep X w0 w L) (n : Nat) (hn : L[n]? = some (.ro (Kd.int k) (.slice (some a) xs.length c) xs)) (i : Nat) (hi : i < xs.length) (hx : xs.getD i 0 = x) : w.cell? (a.add i) = some (.int k x) := by
 obtain ⟨a', c', e, y⟩ := intk_cell (h.ro n hn) i hi
 cases e
 rw [← hx]; exact y
theorem row_step (a b : Int) (i : Nat) : rowOf a b i ++ [(⟨(encL a).getD i 0, (encL b).getD i 0⟩ : Rg)] = rowOf a b (i + 1) := by
 unfold rowOf
 rw [List.range_succ, List.map_append]; rfl
theorem row_len (a b : Int) (i : Nat) : (rowOf a b i).length = i := by simp [rowOf]
set_option maxHeartbeats 8000000 in
theorem cut_calls : ∀ f : Nat, CutC f
 | 0 => fun X a b n w hX h hl => by unfold CutOk at h; omega
 | f + 1 => fun X a b n w hX h hl => by
  have ih := cut_calls f
  have HS := aM (Sep.start hX)
  have HC := aM h
  have HIH := aM (both_calls f ih)
  have HL := aM (show b - a ≤ (f : Int) by omega)
  have hb : 0 ≤ a ∧ a ≤ b ∧ b ≤ 1114111 ∧ 1 ≤ n ∧ n ≤ 4 ∧ (b < 55296 ∨ 57343 < a) := by unfold CutOk at h; omega
  have HEN := aM (enc_len h)
  obtain ⟨ha0, hab, hb1, hn1, hn4, hsur⟩ := hb
  have HSUR := aM hsur
  obtain ⟨r, hr⟩ : ∃ r, r = cutF (f + 1) a b n := ⟨_, rfl⟩
  rw [← hr]
  rw [cutF] at hr
  obtain ⟨c, hc⟩ : ∃ c, c = cutAt a b (n - 1) 1 := ⟨_, rfl⟩
  rw [← hc] at hr
  have HR := aM hr
  have HCC := aM (show cutAt a b (n - 1) 1 = c from hc.symm)
  have HIN := aM (fun x (hx : c = some x) => cutAt_in a b ha0 hab _ _ x (by decide) (hc.symm.trans hx))
  clear hX h hl ih hc hr hsur
  go_enter Tryz.func84, Tryz.ntmps84
  go_wp2_with fail
  go_loopg [7, 8] (n - 1) (fun q v7 v8 w' => ∃ (k : Nat) (m : Int), (v8 = .int .i64 (k : Int) ∧ v7 = .int .i64 m) ∧ Aside0 (k + q = n ∧ 1 ≤ k) ∧ Aside0 ((k = 1 ∧ m = 1) ∨ (k = 2 ∧ m = 64) ∨ (k = 3 ∧ m = 4096) ∨ (k = 4 ∧ m = 262144)) ∧ Aside0 (cutAt a b q m = c) ∧ Aside0 (Sep X w w' []))
  case atStart => exact ⟨1, 1, ⟨rfl, rfl⟩, ⟨by omega, by omega⟩, ⟨by omega⟩, HCC, HS⟩
  case round =>
   clear HCC HS
   obtain ⟨k, m, ⟨rfl, rfl⟩, HK, HM, HCC, HS⟩ := hrel
   cases gk with
   | zero =>
    have e1 : decide ((k : Int) < (n : Int)) = false := dF (by have := HK.out; omega)
    have e2 : decide (k < n) = false := dF (by have := HK.out; omega)
    have c0 : c = none := HCC.out.symm
    have HR2 := aM (show r = [rowOf a b n] by rw [HR.out, c0])
    clear HCC HR c0
    go_wp2_with (first
     | ((go_at_call 94; (with_reducible refine (enc_calls _ a _ HS.out.lt ha0 (by omega) (by have := HSUR.out; omega)).mono ?_)); rintro e w5 ⟨v5, rfl, hv, hb⟩; have hs := HS.out.push_ro hb hv; clear HS hv hb; have HS := aM hs; clear hs)
     | ((go_at_call 94; (with_reducible refine (enc_calls _ b _ HS.out.lt (by omega) (by omega) (by have := HSUR.out; omega)).mono ?_)); rintro e w6 ⟨v6, rfl, hv, hb⟩; have hs := (HS.out.push_ro hb hv).push_nil kRg 143; clear HS hv hb; have HS := aM hs; clear hs))
    obtain ⟨A5, c5, e5⟩ := HS.out.rform 0 rfl
    subst e5
    obtain ⟨A6, c6, e6⟩ := HS.out.rform 1 rfl
    subst e6
    clear e1 e2
    go_loopg [11, 12] n (fun q v11 v12 w' => ∃ (i : Nat), v12 = .int .i64 (i : Int) ∧ Aside0 (i + q = n) ∧ Aside0 (Sep X w w' [.ro kU8 (.slice A5 (encL a).length c5) (encL a), .ro kU8 (.slice A6 (encL b).length c6) (encL b), .row kRg 143 v11 (rowOf a b i)]))
    case atStart => exact ⟨0, rfl, ⟨by omega⟩, HS⟩
    case round =>
     clear HS
     obtain ⟨i, rfl, HI, HS⟩ := hrel
     cases gk with
     | zero =>
      have hi : i = n := by have := HI.out; omega
      subst hi
      have e1 : decide ((i : Int) < (i : Int)) = false := dF (by omega)
      have e2 : decide (i < i) = false := dF (by omega)
      obtain ⟨A7, c7, e7⟩ := HS.out.form 2 rfl
      subst e7
      have hs := HS.out.sealRo 2 rfl
      clear HS
      have HS := aM hs
      clear hs
      go_wp2_with (first
       | ((with_reducible refine gate_dst (N := 79) rfl ?_); refine slit_row kRgs 139 ?hg (N := 79) ?hd (xs := [rowOf a b i]) (inner := [.slice A7 (rowOf a b i).length c7]) ?hr HS.out ?hp (by simp) ?_; (case hd => rfl); (case hg => rfl); (case hr => first | (go_simp; done) | (go_simp; rfl)); (case hp => exact Reps.one (PK.slice (HS.out.ro 2 rfl)) (Reps.none _ _)); clear HS; intro v20 w20 hs; have HS := aM hs; clear hs))
      go_ret
      rw [HR2.out]
      exact ⟨_, rfl, HS.out.res_own 3 rfl, HS.out.below⟩
     | succ q1 =>
      have hi : i < n := by have := HI.out; omega
      have e1 : decide ((i : Int) < (n : Int)) = true := dT (by omega)
      have e2 : decide (i < n) = true := dT hi
      have hi0 : (0 : Int) ≤ (i : Int) := by omega
      have hia : i < (encL a).length := by rw [HEN.out.1]; exact hi
      have hib : i < (encL b).length := by rw [HEN.out.2]; exact hi
      have hia1 : (i : Int) < ((encL a).length : Int) := by omega
      have hib1 : (i : Int) < ((encL b).length : Int) := by omega
      have hin4 : i < 4 := by omega
      obtain ⟨a5, c5', e5, _⟩ := intk_cell (HS.out.ro 0 rfl) i hia
      cases e5
      obtain ⟨a6, c6', e6, _⟩ := intk_cell (HS.out.ro 1 rfl) i hib
      cases e6
      have HST := aM (row_step a b i)
      obtain ⟨xa, hxa⟩ : ∃ x, x = (encL a).getD i 0 := ⟨_, rfl⟩
      obtain ⟨xb, hxb⟩ : ∃ x, x = (encL b).getD i 0 := ⟨_, rfl⟩
      rw [← hxa, ← hxb] at HST
      have HXA := aM hxa.symm
      have HXB := aM hxb.symm
      have HIA := aM hia
      have HIB := aM hib
      clear hxa hxb
      go_wp2_with fail
      have hs := HS.out.drew
      clear HS; have HS := aM hs; clear hs
      refine start_ (n := 13) (S := fun w' => w'.cell? (a5.add i) = some (.int .u8 xa) ∧ w'.cell? (a6.add i) = some (.int .u8 xb)) (ds := [11]) #[false, false, false, false, false, false, false, false, false, false, false, false, false] (by kernel_rfl) rfl rfl ⟨(ro_cellk HS.out 0 rfl i HIA.out HXA.out), (ro_cellk HS.out 1 rfl i HIB.out HXB.out)⟩ (fun hHeld => ?_)
      refine pure_ (i := 0) (N := some 66) (v := ?_) (a' := ?_) (bv 13 1) rfl rfl (by kernel_rfl) (fun _ _ _ h => h) (Or.inl ⟨by rfl, ?_⟩) ?_ ?_
      rotate_left
      ·intro w'
       go_simp
       with_reducible rfl
      rotate_left
      ·simp only [Act.put, qA, qB, qC, i64_w, i32_w]
       rfl
      refine pure_ (i := 1) (N := some 67) (v := ?_) (a' := ?_) (bv 13 3) rfl rfl (by kernel_rfl) (fun _ _ _ h => h) (Or.inl ⟨by rfl, ?_⟩) ?_ ?_
      rotate_left
      ·intro w'
       go_simp
       with_reducible rfl
      rotate_left
      ·simp only [Act.put, qA, qB, qC, i64_w, i32_w]
       rfl
      refine pure_ (i := 2) (N := some 68) (v := ?_) (a' := ?_) (bv 13 7) rfl rfl (by kernel_rfl) (fun _ _ _ h => h) (Or.inl ⟨by rfl, ?_⟩) ?_ ?_
      rotate_left
      ·intro w'
       go_simp
       with_reducible rfl
      rotate_left
      ·simp only [Act.put, qA, qB, qC, i64_w, i32_w]
       rfl
      refine pure_ (i := 3) (N := some 69) (v := ?_) (a' := ?_) (bv 13 15) rfl rfl (by kernel_rfl) (fun _ _ _ h => h) (Or.inl ⟨by rfl, ?_⟩) ?_ ?_
      rotate_left
      ·intro w'
       go_simp
       with_reducible rfl
      rotate_left
      ·simp only [Act.put, qA, qB, qC, i64_w, i32_w]
       rfl
      refine pure_ (i := 5) (N := some 71) (v := ?_) (a' := ?_) (bv 13 47) rfl rfl (by kernel_rfl) (fun _ _ _ h => h) (Or.inl ⟨by rfl, ?_⟩) ?_ ?_
      rotate_left
      ·intro w'
       go_simp
       with_reducible rfl
      rotate_left
      ·simp only [Act.put, qA, qB, qC, i64_w, i32_w]
       rfl
      refine pure_ (i := 6) (N := some 72) (v := ?_) (a' := ?_) (bv 13 111) rfl rfl (by kernel_rfl) (fun _ _ _ h => h) (Or.inl ⟨by rfl, ?_⟩) ?_ ?_
      rotate_left
      ·intro w'
       go_simp
       with_reducible rfl
      rotate_left
      ·simp only [Act.put, qA, qB, qC, i64_w, i32_w]
       rfl
      refine pure_ (i := 7) (N := some 73) (v := ?_) (a' := ?_) (bv 13 239) rfl rfl (by kernel_rfl) (fun _ _ _ h => h) (Or.inl ⟨by rfl, ?_⟩) ?_ ?_
      rotate_left
      ·intro w'
       go_simp
       with_reducible rfl
      rotate_left
      ·simp only [Act.put, qA, qB, qC, i64_w, i32_w]
       rfl
      refine take_ (i := 4) (N := some 70) (v := ?_) (a' := ?_) (bv 13 255) rfl rfl (by kernel_rfl) (fun _ _ _ h => h) (Or.inl ⟨by rfl, ?_⟩) hHeld ?_ ?_
      rotate_left
      ·rintro w' ⟨s0, s1⟩
       go_simp
       with_reducible rfl
      rotate_left
      ·simp only [Act.put, qA, qB, qC, i64_w, i32_w]
       rfl
      refine take_ (i := 8) (N := some 74) (v := ?_) (a' := ?_) (bv 13 511) rfl rfl (by kernel_rfl) (fun _ _ _ h => h) (Or.inl ⟨by rfl, ?_⟩) hHeld ?_ ?_
      rotate_left
      ·rintro w' ⟨s0, s1⟩
       go_simp
       with_reducible rfl
      rotate_left
      ·simp only [Act.put, qA, qB, qC, i64_w, i32_w]
       rfl
      refine pure_ (i := 9) (N := some 75) (v := ?_) (a' := ?_) (bv 13 1023) rfl rfl (by kernel_rfl) (fun _ _ _ h => h) (Or.inl ⟨by rfl, ?_⟩) ?_ ?_
      rotate_left
      ·intro w'
       go_simp
       with_reducible rfl
      rotate_left
      ·simp only [Act.put, qA, qB, qC, i64_w, i32_w]
       rfl
      refine one_ (i := 10) (N := some 76) (bv 13 2047) rfl rfl (by kernel_rfl) (by decide) (fun K hK => ?_)
      refine value_ (w1 := ?_) (v := ?_) (by rfl) rfl ?_ ?_
      rotate_left 2
      ·go_simp
       constructor
       ·rfl
       ·rfl
      have hs := HS.out.lit_ro kRg 143 (xs := [(⟨xa, xb⟩ : Rg)]) (inner := [.int .u8 xa, .int .u8 xb]) (rg_rep _ _ xa xb) (by simp)
      clear HS; have HS := aM hs; clear hs
      refine hK.out _ _ ⟨(ro_cellk HS.out 0 rfl i HIA.out HXA.out), (ro_cellk HS.out 1 rfl i HIB.out HXB.out)⟩ (fun hHeld => ?_)
      clear hK K
      refine norm_ (a' := ?_) ?_ ?_
      rotate_left
      ·show Act.put _ (some 76) _ = _
       simp only [Act.put, qA, qB, qC, i64_w, i32_w]
       rfl
      refine last_ (i := 11) (N := some 77) #[true, true, true, true, true, true, true, true, true, true, true, true, false] rfl rfl (by kernel_rfl) (by decide) (fun K hK => ?_)
      refine sgrow_step kRg 2 (by rfl) rfl (.tmp 66) (.tmp 76) 139 143 (.agg #[.int .u8 0, .int .u8 0]) 2 rfl Tryz.underlying139 info143 rfl (by decide) (by omega) _ _ (rowOf a b i) [(⟨xa, xb⟩ : Rg)] rfl rfl HS.out rfl (HS.out.ro 3 rfl) (by rw [row_len]; simp; omega) ?_
      intro v1 w1 hs
      clear HS; have HS := aM hs; clear hs
      refine hK.out _ _ ?_
      clear hK K
      refine norm_ (a' := ?_) ?_ ?_
      rotate_left
      ·show Act.put _ (some 77) _ = _
       simp only [Act.put, qA, qB, qC, i64_w, i32_w]
       rfl
      refine pure_ (i := 12) (N := some 11) (v := ?_) (a' := ?_) (bv 13 8191) rfl rfl (by kernel_rfl) (fun _ _ _ h => h) (Or.inl ⟨by rfl, ?_⟩) ?_ ?_
      rotate_left
      ·intro w'
       go_simp
       with_reducible rfl
      rotate_left
      ·simp only [Act.put, qA, qB, qC, i64_w, i32_w]
       rfl
      refine done_ (by kernel_rfl) ?_
      rw [HST.out] at HS
      go_wp2_with fail
      go_roundg q1
      case measure => omega
      case rel => exact ⟨i + 1, by go_num, ⟨by have := HI.out; omega⟩, ⟨HS.out.take 3⟩⟩
   | succ q =>
    have hk : k < n := by have := HK.out; omega
    have e1 : decide ((k : Int) < (n : Int)) = true := dT (by omega)
    have e2 : decide (k < n) = true := dT hk
    have hm0 := HM.out
    have hm1 : 1 ≤ m := by omega
    have hM2 : 64 ≤ m * 64 := by omega
    have hM3 : m * 64 ≤ 262144 := by omega
    have hm3 : m ≤ 4096 := by omega
    have HM2 := aM (show (k + 1 = 1 ∧ m * 64 = 1) ∨ (k + 1 = 2 ∧ m * 64 = 64) ∨ (k + 1 = 3 ∧ m * 64 = 4096) ∨ (k + 1 = 4 ∧ m * 64 = 262144) by omega)
    have HCC1 := HCC.out
    rw [cutAt] at HCC1
    have ha1 := Int.emod_nonneg a (show m * 64 ≠ 0 by omega)
    have hb1' := Int.emod_nonneg b (show m * 64 ≠ 0 by omega)
    have qa : 0 ≤ a / (m * 64) ∧ a / (m * 64) ≤ 1114111 := ⟨Int.ediv_nonneg ha0 (by omega), Int.le_trans (Int.ediv_le_self _ ha0) (by omega)⟩
    have qb : 0 ≤ b / (m * 64) ∧ b / (m * 64) ≤ 1114111 := ⟨Int.ediv_nonneg (by omega) (by omega), Int.le_trans (Int.ediv_le_self _ (by omega)) (by omega)⟩
    have hax : a % (m * 64) ≤ a := by have h1 := Int.emod_add_mul_ediv a (m * 64); have h2 := Int.mul_nonneg (show 0 ≤ m * 64 by omega) qa.1; omega
    have hbx : b % (m * 64) ≤ b := by have h1 := Int.emod_add_mul_ediv b (m * 64); have h2 := Int.mul_nonneg (show 0 ≤ m * 64 by omega) qb.1; omega
    obtain ⟨qa1, qa2⟩ := qa
    obtain ⟨qb1, qb2⟩ := qb
    clear HM HCC hm0
    by_cases c1 : a / (m * 64) = b / (m * 64)
    ·have f1 : (a / (m * 64) == b / (m * 64)) = true := beq_iff_eq.mpr c1
     have HC2 := aM (show cutAt a b q (m * 64) = c by rwa [if_pos c1] at HCC1)
     clear HCC1 c1
     go_wp2_with fail
     go_quiet (fail)
     have HS2 := aM (HS.out.drewN nq)
     go_wp2_with fail
     go_roundg q
     case measure => omega
     case rel => exact ⟨k + 1, m * 64, ⟨by go_num, rfl⟩, ⟨by have := HK.out; omega, by omega⟩, HM2, HC2, HS2⟩
    ·have f1 : (a / (m * 64) == b / (m * 64)) = false := bF c1
     rw [if_neg c1] at HCC1
     clear c1
     by_cases c2 : a % (m * 64) = 0
     case neg =>
      have f2 : (a % (m * 64) == 0) = false := bF c2
      have f3 : (a % (m * 64) != 0) = true := bne_iff_ne.mpr c2
      rw [if_pos c2] at HCC1
      have hin := HIN.out _ HCC1.symm
      have HRR := aM (show r = cutF f a (a - a % (m * 64) + m * 64 - 1) n ++ cutF f (a - a % (m * 64) + m * 64) b n by rw [HR.out, ← HCC1])
      have HIX := aM hin
      clear HCC1 hin c2 HR HIN
      go_wp2_with fail
      go_quiet (fail)
      have HS2 := aM (HS.out.drewN nq)
      go_wp2_with fail
      refine (HIH.out X a (a - a % (m * 64) + m * 64) b n _ (fun k hk => Nat.lt_of_lt_of_le (HS2.out.old k hk) HS2.out.below.size) (HC.out.left HIX.out) (HC.out.right HIX.out) (by have := HIX.out; have := HL.out; omega) (by have := HIX.out; have := HL.out; omega)).mono ?_
      rintro e w5 ⟨v5, rfl, hv, hb⟩
      have HV := aM (hv.base_le HS2.out.below.size)
      have HB := aM (below_step HS2.out.below hb)
      clear hv hb
      go_wp2_with fail
      go_ret
      rw [HRR.out]
      exact ⟨_, rfl, HV.out, HB.out⟩
     case pos =>
      have f2 : (a % (m * 64) == 0) = true := beq_iff_eq.mpr c2
      have f3 : (a % (m * 64) != 0) = false := bne_eq_false_iff_eq.mpr c2
      rw [if_neg (fun h => h c2)] at HCC1
      by_cases c3 : b % (m * 64) = m * 64 - 1
      case neg =>
       have f4 : (b % (m * 64) == m * 64 - 1) = false := bF c3
       have f5 : (b % (m * 64) != m * 64 - 1) = true := bne_iff_ne.mpr c3
       rw [if_pos c3] at HCC1
       have hin := HIN.out _ HCC1.symm
       have HRR := aM (show r = cutF f a (b - b % (m * 64) - 1) n ++ cutF f (b - b % (m * 64)) b n by rw [HR.out, ← HCC1])
       have HIX := aM hin
       clear HCC1 hin c2 c3 HR HIN
       go_wp2_with fail
       go_quiet (fail)
       have HS2 := aM (HS.out.drewN nq)
       go_wp2_with fail
       refine (HIH.out X a (b - b % (m * 64)) b n _ (fun k hk => Nat.lt_of_lt_of_le (HS2.out.old k hk) HS2.out.below.size) (HC.out.left HIX.out) (HC.out.right HIX.out) (by have := HIX.out; have := HL.out; omega) (by have := HIX.out; have := HL.out; omega)).mono ?_
       rintro e w5 ⟨v5, rfl, hv, hb⟩
       have HV := aM (hv.base_le HS2.out.below.size)
       have HB := aM (below_step HS2.out.below hb)
       clear hv hb
       go_wp2_with fail
       go_ret
       rw [HRR.out]
       exact ⟨_, rfl, HV.out, HB.out⟩
      case pos =>
       have f4 : (b % (m * 64) == m * 64 - 1) = true := beq_iff_eq.mpr c3
       have f5 : (b % (m * 64) != m * 64 - 1) = false := bne_eq_false_iff_eq.mpr c3
       rw [if_neg (fun h => h c3)] at HCC1
       have HC2 := aM HCC1
       clear HCC1 c2 c3
       go_wp2_with fail
       go_quiet (fail)
       have HS2 := aM (HS.out.drewN nq)
       go_wp2_with fail
       go_roundg q
       case measure => omega
       case rel => exact ⟨k + 1, m * 64, ⟨by go_num, rfl⟩, ⟨by have := HK.out; omega, by omega⟩, HM2, HC2, HS2⟩
end Go.Proofs.YtplhfgobeicegaaGreatDoor.P
namespace Go.Proofs.YtplhfgobeicegaaGreatDoor.P
open Go Go.RowKit Go.Proofs.YtplhfgobeicegaaGreatDoorW.PrintWords Go.Proofs.YtplhfgobeicegaaGreatDoorW.PrintLast Go.Proofs.YtplhfgobeicegaaGreatDoorW.PrintMore Go.Proofs.YtplhfgobeicegaaGreatDoor.PX
attribute [local go_sem] max2_int min2_int max_two min_two
set_option linter.unusedVariables false
set_option linter.unusedSimpArgs false
set_option maxRecDepth 100000
def fromL : List Int := [0, 128, 2048, 65536]
def uptoL : List Int := [127, 2047, 65535, 1114111]
def cutL (a b : Int) (n : Nat) : List (List Rg) := cutF ((b - a).toNat + 1) a b n
def spanN (s : Sp) (n : Nat) : List (List Rg) :=
 if (if s.f0 < fromL.getD n 0 then fromL.getD n 0 else s.f0) ≤ (if uptoL.getD n 0 < s.f1 then uptoL.getD n 0 else s.f1) then
  cutL (if s.f0 < fromL.getD n 0 then fromL.getD n 0 else s.f0) (if uptoL.getD n 0 < s.f1 then uptoL.getD n 0 else s.f1) (n + 1) else []
def spanGo (s : Sp) : Nat → Nat → List (List Rg)
 | 0, _ => []
 | m + 1, n => spanN s n ++ spanGo s m (n + 1)
def rows03 : List Sp → List (List Rg)
 | [] => []
 | s :: t => spanGo s 4 0 ++ rows03 t
def of03 (l : List Sp) : List (List Rg) := rows03 (makeL l [] 2)
def SpOk (s : Sp) : Prop := 0 ≤ s.f0 ∧ s.f0 ≤ s.f1 ∧ s.f1 ≤ 1114111 ∧ (s.f1 < 55296 ∨ 57343 < s.f0)
theorem span_ok (s : Sp) (h : SpOk s) (n : Nat) (hn : n < 4) (hab : (if s.f0 < fromL.getD n 0 then fromL.getD n 0 else s.f0) ≤ (if uptoL.getD n 0 < s.f1 then uptoL.getD n 0 else s.f1)) :
  CutOk (if s.f0 < fromL.getD n 0 then fromL.getD n 0 else s.f0) (if uptoL.getD n 0 < s.f1 then uptoL.getD n 0 else s.f1) (n + 1) := by
 unfold SpOk at h
 unfold CutOk
 have hn4 : n = 0 ∨ n = 1 ∨ n = 2 ∨ n = 3 := by omega
 rcases hn4 with rfl | rfl | rfl | rfl
 ·rw [show fromL.getD 0 0 = 0 from rfl, show uptoL.getD 0 0 = 127 from rfl] at *
  split at hab <;> split at hab <;> (repeat (first | rw [if_pos (by assumption)] | rw [if_neg (by assumption)])) <;> omega
 ·rw [show fromL.getD 1 0 = 128 from rfl, show uptoL.getD 1 0 = 2047 from rfl] at *
  split at hab <;> split at hab <;> (repeat (first | rw [if_pos (by assumption)] | rw [if_neg (by assumption)])) <;> omega
 ·rw [show fromL.getD 2 0 = 2048 from rfl, show uptoL.getD 2 0 = 65535 from rfl] at *
  split at hab <;> split at hab <;> (repeat (first | rw [if_pos (by assumption)] | rw [if_neg (by assumption)])) <;> omega
 ·rw [show fromL.getD 3 0 = 65536 from rfl, show uptoL.getD 3 0 = 1114111 from rfl] at *
  split at hab <;> split at hab <;> (repeat (first | rw [if_pos (by assumption)] | rw [if_neg (by assumption)])) <;> omega
theorem cutL_calls (X : Nat → Prop) (a b : Int) (n : Nat) (w : World) (hX : ∀ k, X k → k < w.heap.size) (h : CutOk a b n) :
  Calls Tryz.prog 84 #[.int .i64 a, .int .i64 b, .int .i64 (n : Int)] w fun e w' => ∃ v, e = .returned v ∧ Own kRgs 139 (Xp X v) w' w.heap.size v (cutL a b n) ∧ Below w.heap.size w w' :=
 cut_calls ((b - a).toNat + 1) X a b n w hX h (by unfold CutOk at h; omega)
theorem cutL_len (a b : Int) (n : Nat) (h : CutOk a b n) : (cutL a b n).length ≤ 1114112 := by
 have := cutF_len ((b - a).toNat + 1) a b n h
 unfold CutOk at h
 unfold cutL
 omega
theorem cutL_calls1 (X : Nat → Prop) (a b : Int) (n : Nat) (w : World) (hX : ∀ k, X k → k < w.heap.size) (h : CutOk a b (n + 1)) :
  Calls Tryz.prog 84 #[.int .i64 a, .int .i64 b, .int .i64 ((n : Int) + 1)] w fun e w' => ∃ v, e = .returned v ∧ Own kRgs 139 (Xp X v) w' w.heap.size v (cutL a b (n + 1)) ∧ Below w.heap.size w w' :=
 cutL_calls X a b (n + 1) w hX h
set_option maxHeartbeats 8000000 in
theorem of03_calls (X : Nat → Prop) (v0 : Value) (l : List Sp) (w : World) (hX : ∀ k, X k → k < w.heap.size) (h0 : PV kSp X w v0 l) (hs : Sm l) (hl : l.length ≤ 10000) (hsp : ∀ s ∈ makeL l [] 2, SpOk s) :
    Calls Tryz.prog 64 #[v0] w fun e w' => ∃ v, e = .returned v ∧ PV kRgs X w' v (of03 l) ∧ Below w.heap.size w w' := by
  have H0 := aM h0
  have HSM := aM hs
  have HS := aM (Sep.start hX)
  have HXL := aM (show (makeL l [] 2).length ≤ 20004 by have := make_len l [] 2; simp at this; omega)
  obtain ⟨r, hr⟩ : ∃ r, r = of03 l := ⟨_, rfl⟩
  rw [← hr]
  unfold of03 at hr
  obtain ⟨x, hx⟩ : ∃ x, x = makeL l [] 2 := ⟨_, rfl⟩
  rw [← hx] at hr hsp HXL
  have HXE := aM hx.symm
  have HSP := aM hsp
  have HR := aM (show [] ++ rows03 (x.drop 0) = r from hr.symm)
  clear h0 hs hX hsp hx hr
  go_enter Tryz.func64, Tryz.ntmps64
  go_wp2_with (first
    | (go_at_call 58; (with_reducible refine (Norm_calls _ _ l _ HS.out.lt (HS.out.arg H0.out) HSM.out hl).mono ?_); rintro ee w5 ⟨v5, rfl, hv, hb⟩; rw [HXE.out] at hv; have hs := (HS.out.push_ro hb hv).push_nil kRgs 139; clear hv hb; obtain ⟨A5, c5, e5⟩ := hs.rform 0 rfl; subst e5; clear HS; have HS := aM hs; clear hs))
  have hxl : x.length ≤ 20004 := HXL.out
  go_loopg [3, 5] x.length (fun m v3 v5 w' => ∃ (i : Nat) (o : List (List Rg)), v5 = .int .i64 i ∧ Aside0 (i + m = x.length) ∧ Aside0 (o.length ≤ i * 4 * 1114112) ∧ Aside0 (o ++ rows03 (x.drop i) = r) ∧ Aside0 (Sep X w w' [.ro kSp (.slice A5 x.length c5) x, .row kRgs 139 v3 o]))
  case atStart => exact ⟨0, [], rfl, ⟨by omega⟩, ⟨by simp⟩, HR, HS⟩
  case round =>
    clear HS HR
    obtain ⟨i, o, rfl, HJ, HO, HR, HS⟩ := hrel
    cases gk with
    | zero =>
      have e1 : decide ((i : Int) < (x.length : Int)) = false := dF (by have := HJ.out; omega)
      have e2 : decide (i < x.length) = false := dF (by have := HJ.out; omega)
      have q0 : o = r := by
        have := HR.out
        rw [List.drop_eq_nil_of_le (by have := HJ.out; omega)] at this
        simpa [rows03] using this
      clear HR
      subst q0
      go_wp2_with fail
      go_ret
      exact ⟨_, rfl, HS.out.res_row 1 rfl, HS.out.below⟩
    | succ k1 =>
      have hi : i < x.length := by have := HJ.out; omega
      have e1 : decide ((i : Int) < (x.length : Int)) = true := dT (by omega)
      have e2 : decide (i < x.length) = true := dT hi
      have hi0 : (0 : Int) ≤ (i : Int) := by omega
      have hi1 : (i : Int) < (x.length : Int) := by omega
      have HR1 := HR.out
      rw [drop_at x z124 i hi, rows03] at HR1
      have HSS := aM (HSP.out _ (mem_getD x z124 i hi))
      obtain ⟨s, hs⟩ : ∃ s, s = x.getD i z124 := ⟨_, rfl⟩
      rw [← hs] at HR1 HSS
      have HSE := aM hs.symm
      have HR2 := aM HR1
      have HO2 := aM (show o.length ≤ (i * 4 + 0) * 1114112 from HO.out)
      clear HR1 HR HO hs
      go_wp2_with (first
        | ((with_reducible refine gate_dst (N := 19) rfl ?_); refine slit kInt 3 ?hg (N := 19) ?hd (xs := ([0, 128, 2048, 65536] : List Int)) (inner := [.int .i64 0, .int .i64 128, .int .i64 2048, .int .i64 65536]) ?hr HS.out ?hp (by simp) ?_; (case hd => rfl); (case hg => rfl); (case hr => first | (go_simp; done) | (go_simp; rfl)); (case hp => exact (reps_int _ _ .i64 [0, 128, 2048, 65536])); clear HS; intro v6 w6 hs; replace hs : PX.Sep X w _ (_ ++ [.ro kInt _ fromL]) := hs; obtain ⟨A6, c6, e6⟩ := hs.rform 2 rfl; subst e6; have HS := aM hs; clear hs)
        | ((with_reducible refine gate_dst (N := 20) rfl ?_); refine slit kInt 3 ?hg (N := 20) ?hd (xs := ([127, 2047, 65535, 1114111] : List Int)) (inner := [.int .i64 127, .int .i64 2047, .int .i64 65535, .int .i64 1114111]) ?hr HS.out ?hp (by simp) ?_; (case hd => rfl); (case hg => rfl); (case hr => first | (go_simp; done) | (go_simp; rfl)); (case hp => exact (reps_int _ _ .i64 [127, 2047, 65535, 1114111])); clear HS; intro v7 w7 hs; replace hs : PX.Sep X w _ (_ ++ [.ro kInt _ uptoL]) := hs; obtain ⟨A7, c7, e7⟩ := hs.rform 3 rfl; subst e7; have HS := aM hs; clear hs))
      clear e1 e2
      go_loopg [3, 8] 4 (fun m v3 v8 w' => ∃ (n : Nat) (o : List (List Rg)), v8 = .int .i64 n ∧ Aside0 (n + m = 4) ∧ Aside0 (o.length ≤ (i * 4 + n) * 1114112) ∧ Aside0 (o ++ (spanGo s m n ++ rows03 (x.drop (i + 1))) = r) ∧ Aside0 (Sep X w w' [.ro kSp (.slice A5 x.length c5) x, .row kRgs 139 v3 o, .ro kInt (.slice A6 fromL.length c6) fromL, .ro kInt (.slice A7 uptoL.length c7) uptoL]))
      case atStart => exact ⟨0, o, rfl, ⟨by omega⟩, HO2, HR2, HS⟩
      case round =>
        clear HS HR2 HO2
        obtain ⟨n, o, rfl, HN, HO, HR, HS⟩ := hrel
        cases gk with
        | zero =>
          have hn : n = 4 := by have := HN.out; omega
          have e1 : decide ((n : Int) < 4) = false := dF (by omega)
          have e2 : decide (n < 4) = false := dF (by omega)
          have HR3 := aM (show o ++ rows03 (x.drop (i + 1)) = r by have := HR.out; rwa [spanGo, List.nil_append] at this)
          have HO3 := aM (show o.length ≤ (i + 1) * 4 * 1114112 by have h1 := HO.out; have h2 : i * 4 + n = (i + 1) * 4 := (by omega); rw [h2] at h1; exact h1)
          go_wp2_with fail
          go_roundg k1
          case measure => omega
          case rel => exact ⟨i + 1, o, by go_num, ⟨by have := HJ.out; omega⟩, HO3, HR3, ⟨HS.out.take 2⟩⟩
        | succ m1 =>
          have hn : n < 4 := by have := HN.out; omega
          have e1 : decide ((n : Int) < 4) = true := dT (by omega)
          have e2 : decide (n < 4) = true := dT hn
          have hn0 : (0 : Int) ≤ (n : Int) := by omega
          have hnf : n < fromL.length := hn
          have hnu : n < uptoL.length := hn
          have hnf1 : (n : Int) < (fromL.length : Int) := by omega
          have hnu1 : (n : Int) < (uptoL.length : Int) := by omega
          obtain ⟨a5, c5', e5, y0, y1⟩ := sp_cell (HS.out.ro 0 rfl) i hi
          cases e5
          rw [HSE.out] at y0 y1
          obtain ⟨a6, c6', e6, y2⟩ := int_cell (HS.out.ro 2 rfl) n hnf
          cases e6
          obtain ⟨a7, c7', e7, y3⟩ := int_cell (HS.out.ro 3 rfl) n hnu
          cases e7
          have HR1 := HR.out
          rw [spanGo, spanN] at HR1
          have HCO := aM (span_ok s HSS.out n hn)
          have HIN := aM (show s.f0 ≤ 1114111 ∧ 0 ≤ s.f1 ∧ i < 20004 by have := HSS.out; unfold SpOk at this; omega)
          generalize gfn : fromL.getD n 0 = fn at *
          generalize gun : uptoL.getD n 0 = un at *
          generalize glo : s.f0 = lo at *
          generalize ghi : s.f1 = hi' at *
          have HG := aM (show fromL.getD n 0 = fn ∧ uptoL.getD n 0 = un ∧ s.f0 = lo ∧ s.f1 = hi' from ⟨gfn, gun, glo, ghi⟩)
          clear gfn gun glo ghi
          rcases Int.lt_or_le lo fn with c1 | c1
          all_goals rcases Int.lt_or_le un hi' with c2 | c2
          all_goals
            first
              | rw [if_pos c1, if_pos c2] at HR1 HCO
              | rw [if_pos c1, if_neg (show ¬ un < hi' by omega)] at HR1 HCO
              | rw [if_neg (show ¬ lo < fn by omega), if_pos c2] at HR1 HCO
              | rw [if_neg (show ¬ lo < fn by omega), if_neg (show ¬ un < hi' by omega)] at HR1 HCO
            split at HR1
            · next c3 =>
              have d3 := dT c3
              have HC := aM (HCO.out c3)
              have HRT := aM HR1
              have HLN := aM (cutL_len _ _ _ HC.out)
              have HOB := aM (show o.length ≤ 200000000000 from Nat.le_trans HO.out (Nat.le_trans (Nat.mul_le_mul_right _ (show i * 4 + n ≤ 100000 by have := HIN.out; omega)) (by decide)))
              clear HR1 HCO c3 HR
              go_wp2_with fail
              go_quiet (fail)
              have HS2 := aM (HS.out.drewN nq)
              clear HS
              obtain ⟨wq, hwq⟩ : ∃ q, q = wr.drewN nq := ⟨_, rfl⟩
              rw [← hwq] at HS2 ⊢
              clear y0 y1 y2 y3 hwq
              obtain ⟨b5, d5, e5, y0, y1⟩ := sp_cell (HS2.out.ro 0 rfl) i hi
              cases e5
              rw [HSE.out, HG.out.2.2.2] at y1
              obtain ⟨b7, d7, e7, y3⟩ := int_cell (HS2.out.ro 3 rfl) n hnu
              cases e7
              rw [HG.out.2.1] at y3
              go_wp2_with fail
              go_quiet (fail)
              have HS := aM (HS2.out.drewN nq)
              clear HS2
              go_wp2_with (first
                | ((go_at_call 84; (with_reducible refine (cutL_calls1 _ _ _ n _ HS.out.lt HC.out).mono ?_)); rintro e w9 ⟨v9, rfl, hv, hb⟩; have hs := (HS.out.push_row hb hv).sealRo 4 rfl; clear HS hv hb; have HS := aM hs; clear hs)
                | ((with_reducible refine gate_builtin (b := .append) (xs := #[.tmp 48, .tmp 53]) rfl ?_); at_builtin; refine sgrow kRgs 1 rfl (.tmp 48) (.tmp 53) 111 139 (.slice none 0 0) 24 rfl Tryz.underlying111 info139 rfl (by decide) (by omega) _ _ o _ rfl rfl HS.out rfl (HS.out.ro 4 rfl) (by have := HLN.out; have := HOB.out; omega) ?_; clear HS; intro v10 w10 hs; have HS := aM hs; clear hs))
              go_roundg m1
              case measure => omega
              case rel => exact ⟨n + 1, _, by go_num, ⟨by have := HN.out; omega⟩, ⟨by rw [lA]; exact Nat.le_trans (Nat.add_le_add HO.out HLN.out) (Nat.le_of_eq (Nat.succ_mul _ _).symm)⟩, ⟨by rw [← HRT.out, List.append_assoc, List.append_assoc]⟩, ⟨HS.out.take 4⟩⟩
            · next c3 =>
              have d3 := dF c3
              have HRT := aM HR1
              clear HR1 HCO HR
              go_wp2_with fail
              go_quiet (fail)
              have HS2 := aM (HS.out.drewN nq)
              clear HS
              obtain ⟨wq, hwq⟩ : ∃ q, q = wr.drewN nq := ⟨_, rfl⟩
              rw [← hwq] at HS2 ⊢
              clear y0 y1 y2 y3 hwq
              obtain ⟨b5, d5, e5, y0, y1⟩ := sp_cell (HS2.out.ro 0 rfl) i hi
              cases e5
              rw [HSE.out, HG.out.2.2.2] at y1
              obtain ⟨b7, d7, e7, y3⟩ := int_cell (HS2.out.ro 3 rfl) n hnu
              cases e7
              rw [HG.out.2.1] at y3
              go_wp2_with fail
              go_quiet (fail)
              have HS := aM (HS2.out.drewN nq)
              clear HS2
              go_wp2_with fail
              go_roundg m1
              case measure => omega
              case rel => exact ⟨n + 1, o, by go_num, ⟨by have := HN.out; omega⟩, ⟨Nat.le_trans HO.out (Nat.mul_le_mul_right _ (by omega))⟩, ⟨by rw [← HRT.out]; rfl⟩, HS⟩
end Go.Proofs.YtplhfgobeicegaaGreatDoor.P
namespace Go.Proofs.YtplhfgobeicegaaGreatDoor.P
open Go Go.RowKit Go.Proofs.YtplhfgobeicegaaGreatDoorW.PrintWords Go.Proofs.YtplhfgobeicegaaGreatDoor.PX
set_option linter.unusedVariables false
theorem mem_lay (x y : Int) : ∀ l : List Int, y ∈ layL x l ↔ y = x ∨ y ∈ l
 | [] => by simp [layL]
 | z :: t => by
  rw [layL]
  split
  ·rw [List.mem_cons, mem_lay x y t, List.mem_cons]
   constructor
   ·rintro (h | h | h) <;> simp [h]
   ·rintro (h | h | h) <;> simp [h]
  ·split
   ·next h => subst h; simp
   ·simp
theorem mem_ed1 (s : Sp) (o : List Int) (y : Int) : y ∈ ed1 s o ↔ (y = s.f0 ∧ scalarB s.f0 = true) ∨ y ∈ o := by
 unfold ed1
 split
 ·next h => rw [mem_lay]; simp [h]
 ·next h => simp [h]
theorem mem_ed2 (s : Sp) (o : List Int) (y : Int) : y ∈ ed2 s o ↔ (y = s.f1 + 1 ∧ s.f1 < 1114111 ∧ scalarB (s.f1 + 1) = true) ∨ y ∈ o := by
 unfold ed2
 split
 ·next h => rw [mem_lay]; simp [h]
 ·next h => simp [h]
def Edge (l : List Sp) (y : Int) : Prop := ∃ s ∈ l, (y = s.f0 ∧ scalarB s.f0 = true) ∨ (y = s.f1 + 1 ∧ s.f1 < 1114111 ∧ scalarB (s.f1 + 1) = true)
theorem mem_edGo (y : Int) : ∀ (l : List Sp) (o : List Int), y ∈ edGo o l ↔ y ∈ o ∨ Edge l y
 | [], o => by simp [edGo, Edge]
 | s :: t, o => by
  rw [edGo, mem_edGo y t, mem_ed2, mem_ed1]
  unfold Edge
  constructor
  ·rintro ((h | h | h) | ⟨r, hr, h⟩)
   ·exact .inr ⟨s, List.mem_cons_self, .inr h⟩
   ·exact .inr ⟨s, List.mem_cons_self, .inl h⟩
   ·exact .inl h
   ·exact .inr ⟨r, List.mem_cons_of_mem _ hr, h⟩
  ·rintro (h | ⟨r, hr, h⟩)
   ·exact .inl (.inr (.inr h))
   ·rcases List.mem_cons.1 hr with rfl | hr
    ·rcases h with h | h
     ·exact .inl (.inr (.inl h))
     ·exact .inl (.inl h)
    ·exact .inr ⟨r, hr, h⟩
theorem mem_edges (l : List Sp) (y : Int) : y ∈ edgesL l ↔ (y = 0 ∨ y = 57344) ∨ Edge l y := by
 unfold edgesL
 rw [mem_edGo]
 simp
theorem mem_layAll (y : Int) : ∀ (t e : List Int), y ∈ layAll e t ↔ y ∈ e ∨ y ∈ t
 | [], e => by simp [layAll]
 | x :: t, e => by
  rw [layAll, mem_layAll y t, mem_lay, List.mem_cons]
  constructor
  ·rintro ((h | h) | h) <;> simp [h]
  ·rintro (h | h | h) <;> simp [h]
def Rise (l : List Int) : Prop := l.Pairwise (fun a b => a < b)
theorem rise_lay (x : Int) : ∀ l : List Int, Rise l → Rise (layL x l)
 | [], _ => List.pairwise_singleton _ _
 | z :: t, h => by
  obtain ⟨h1, h2⟩ := List.pairwise_cons.1 h
  rw [layL]
  split
  ·next c =>
   refine List.pairwise_cons.2 ⟨fun y hy => ?_, rise_lay x t h2⟩
   rcases (mem_lay x y t).1 hy with rfl | hy
   ·exact c
   ·exact h1 y hy
  ·split
   ·next c => subst c; exact h
   ·next c1 c2 =>
    refine List.pairwise_cons.2 ⟨fun y hy => ?_, h⟩
    rcases List.mem_cons.1 hy with rfl | hy
    ·omega
    ·have := h1 y hy; omega
theorem rise_edGo : ∀ (l : List Sp) (o : List Int), Rise o → Rise (edGo o l)
  | [], o, h => h
  | s :: t, o, h => by
    rw [edGo]
    refine rise_edGo t _ ?_
    have h1 : Rise (ed1 s o) := by unfold ed1; split; · exact rise_lay _ _ h
                                   · exact h
    unfold ed2
    split
    · exact rise_lay _ _ h1
    · exact h1
theorem rise_edges (l : List Sp) : Rise (edgesL l) := rise_edGo l _ (by unfold Rise; decide)
theorem rise_layAll : ∀ (t e : List Int), Rise e → Rise (layAll e t)
 | [], e, h => h
 | x :: t, e, h => rise_layAll t _ (rise_lay x e h)
theorem rise_at {l : List Int} (h : Rise l) {i j : Nat} (hij : i < j) (hj : j < l.length) : l.getD i 0 < l.getD j 0 := by
 rw [List.getD_eq_getElem?_getD, List.getElem?_eq_getElem (show i < l.length by omega), List.getD_eq_getElem?_getD, List.getElem?_eq_getElem hj]
 exact List.pairwise_iff_getElem.1 h i j (by omega) hj hij
theorem mkHi_ge {e : List Int} (h : Rise e) (he : ∀ x ∈ e, 0 ≤ x ∧ x ≤ 1114111) (i : Nat) (hi : i < e.length) : e.getD i 0 ≤ mkHi e i ∧ mkHi e i ≤ 1114111 ∧ (e.getD i 0 < 55296 → mkHi e i ≤ 55295) := by
 have h0 := he _ (mem_getD e 0 i hi)
 have h3 := mkHi_in e i he
 have h1 : e.getD i 0 ≤ (if i + 1 < e.length then e.getD (i + 1) 0 - 1 else 1114111) := by
  split
  ·next c => have := rise_at h (show i < i + 1 by omega) c; omega
  ·omega
 refine ⟨?_, h3.2, ?_⟩
 ·unfold mkHi mn
  split
  ·split <;> omega
  ·exact h1
 ·intro c
  unfold mkHi mn
  rw [if_pos c]
  split <;> omega
theorem scalarB_iff (r : Int) : scalarB r = true ↔ 0 ≤ r ∧ r ≤ 1114111 ∧ (r < 55296 ∨ 57343 < r) := by
 unfold scalarB
 simp only [Bool.and_eq_true, Bool.or_eq_true, decide_eq_true_eq]
 constructor
 ·rintro ⟨⟨h1, h2⟩, h3⟩; exact ⟨h1, h2, h3⟩
 ·rintro ⟨h1, h2, h3⟩; exact ⟨⟨h1, h2⟩, h3⟩
theorem hasB_scalar {l : List Sp} {r : Int} (h : hasB l r = true) : scalarB r = true := by
 unfold hasB at h
 exact (Bool.and_eq_true_iff.1 h).2
theorem hasB_mem {l : List Sp} {r : Int} : hasB l r = true ↔ (∃ s ∈ l, s.f0 ≤ r ∧ r ≤ s.f1) ∧ scalarB r = true := by
 unfold hasB
 simp only [Bool.and_eq_true, List.any_eq_true, decide_eq_true_eq]
theorem mkBit_has {a b : List Sp} {n x : Int} (hn : n % 2 = 0) (h : mkBit n (mkK a b x) ≠ 0) : hasB a x = true ∨ hasB b x = true := by
 unfold mkBit mkK at h
 by_cases c1 : hasB a x = true
 ·exact .inl c1
 ·by_cases c2 : hasB b x = true
  ·exact .inr c2
  ·rw [if_neg c1, if_neg c2, if_pos (by decide)] at h
   exact absurd hn h
def Made (a b : List Sp) (s : Sp) : Prop := SpOk s ∧ (hasB a s.f0 = true ∨ hasB b s.f0 = true)
theorem mkOut_made {a b : List Sp} {out : List Sp} {x hi : Int} (ho : ∀ s ∈ out, Made a b s) (hx : scalarB x = true) (hh : hasB a x = true ∨ hasB b x = true) (h1 : x ≤ hi) (h2 : hi ≤ 1114111) (h3 : x < 55296 → hi ≤ 55295) : ∀ s ∈ mkOut out x hi, Made a b s := by
 have hs := (scalarB_iff x).1 hx
 unfold mkOut
 split
 ·next c =>
  intro s hm
  rcases List.mem_or_eq_of_mem_set hm with h | h
  ·exact ho s h
  ·have hl := ho _ (mem_getD out z124 (out.length - 1) (by omega))
   subst h
   obtain ⟨⟨q1, q2, q3, q4⟩, q5⟩ := hl
   refine ⟨⟨q1, ?_, h2, ?_⟩, q5⟩
   ·have := c.2; dsimp only; omega
   ·have := c.2; dsimp only; omega
 ·intro s hm
  rcases List.mem_append.1 hm with h | h
  ·exact ho s h
  ·obtain rfl : s = ⟨x, hi⟩ := by simpa using h
   exact ⟨⟨hs.1, h1, h2, by dsimp only; omega⟩, hh⟩
theorem mkGo_made {a b : List Sp} {n : Int} (hn : n % 2 = 0) {e : List Int} (hr : Rise e) (he : ∀ x ∈ e, 0 ≤ x ∧ x ≤ 1114111) : ∀ (d i : Nat) (out : List Sp), i + d ≤ e.length → (∀ s ∈ out, Made a b s) → ∀ s ∈ mkGo a b n e d i out, Made a b s
 | 0, _, out, _, h => h
 | d + 1, i, out, hd, h => by
  rw [mkGo]
  refine mkGo_made hn hr he d (i + 1) _ (by omega) ?_
  split
  ·exact h
  ·next c =>
   have hb := mkBit_has hn c
   have hg := mkHi_ge hr he i (by omega)
   exact mkOut_made h (hb.elim hasB_scalar hasB_scalar) hb hg.1 hg.2.1 hg.2.2
theorem make_made (a b : List Sp) (n : Int) (hn : n % 2 = 0) : ∀ s ∈ makeL a b n, Made a b s :=
 mkGo_made hn (rise_layAll _ _ (rise_edges a)) (layAll_range _ _ (edges_range b) (edges_range a)) _ 0 [] (by omega) (by intro s hs; cases hs)
theorem mkOut_ne (out : List Sp) (x hi : Int) : (mkOut out x hi).length ≠ 0 := by
 unfold mkOut
 split
 ·next c => rw [List.length_set]; omega
 ·simp
theorem mkGo_ne {a b : List Sp} {n : Int} {e : List Int} : ∀ (d i : Nat) (out : List Sp), (out.length ≠ 0 ∨ ∃ j, i ≤ j ∧ j < i + d ∧ mkBit n (mkK a b (e.getD j 0)) ≠ 0) → (mkGo a b n e d i out).length ≠ 0
 | 0, i, out, h => by
  rcases h with h | ⟨j, h1, h2, _⟩
  ·exact h
  ·omega
 | d + 1, i, out, h => by
  rw [mkGo]
  refine mkGo_ne d (i + 1) _ ?_
  split
  ·next c =>
   rcases h with h | ⟨j, h1, h2, h3⟩
   ·exact .inl h
   ·have : j ≠ i := fun hji => by subst hji; exact h3 c
    exact .inr ⟨j, by omega, by omega, h3⟩
  ·exact .inl (mkOut_ne _ _ _)
theorem make_ne {a b : List Sp} {n x : Int} (hx : x ∈ edgesL a ∨ x ∈ edgesL b) (h : mkBit n (mkK a b x) ≠ 0) : (makeL a b n).length ≠ 0 := by
 have hm : x ∈ layAll (edgesL a) (edgesL b) := (mem_layAll x _ _).2 hx
 obtain ⟨j, hj, e⟩ := List.getElem_of_mem hm
 refine mkGo_ne _ 0 [] (.inr ⟨j, Nat.zero_le _, by omega, ?_⟩)
 rw [List.getD_eq_getElem?_getD, List.getElem?_eq_getElem hj, Option.getD_some, e]
 exact h
theorem norm_char {p : List Sp} (h : makeL p [] 2 = p) (hne : p.length ≠ 0) : ∃ s ∈ p, hasB p s.f0 = true ∧ SpOk s := by
 obtain ⟨s, hs⟩ := List.exists_mem_of_length_pos (show 0 < p.length by omega)
 have hm := make_made p [] 2 (by decide) s (by rw [h]; exact hs)
 refine ⟨s, hs, ?_, hm.1⟩
 rcases hm.2 with h | h
 ·exact h
 ·simp [hasB] at h
theorem norm_ne {u : List Sp} {s : Sp} (hs : s ∈ u) (hsc : scalarB s.f0 = true) (hle : s.f0 ≤ s.f1) : (makeL u [] 2).length ≠ 0 := by
 refine make_ne (x := s.f0) (.inl ((mem_edges u _).2 (.inr ⟨s, hs, .inl ⟨rfl, hsc⟩⟩))) ?_
 have h1 : hasB u s.f0 = true := hasB_mem.2 ⟨⟨s, hs, by omega, hle⟩, hsc⟩
 have h2 : hasB [] s.f0 = false := by simp [hasB]
 unfold mkK
 rw [if_pos h1, h2]
 decide
end Go.Proofs.YtplhfgobeicegaaGreatDoor.P
