/- Part 20 of the proof: S12j, S12k0. -/
import Derived.Test.YtplhfgobeicegaaGreatDoorPd18
import Derived.Test.YtplhfgobeicegaaGreatDoorPd19
namespace Go.Proofs.YtplhfgobeicegaaGreatDoor.P
open Go Go.RowKit Go.Proofs.YtplhfgobeicegaaGreatDoorW.PrintWords Go.Proofs.YtplhfgobeicegaaGreatDoorW.PrintLast Go.Proofs.YtplhfgobeicegaaGreatDoorW.PrintMore Go.Proofs.YtplhfgobeicegaaGreatDoor.PX
set_option linter.unusedVariables false
set_option linter.unusedSimpArgs false
set_option maxRecDepth 100000
def uni (parts : List (List Sp)) : List Int → List Sp
 | [] => []
 | k :: t => parts.getD k.toNat [] ++ uni parts t
def setsStep (parts : List (List Sp)) (g : List Int) (p : List (List Sp) × List Int) : List (List Sp) × List Int :=
 (ins10 (makeL (uni parts g) [] 2) p.1, p.2.take (ahead (makeL (uni parts g) [] 2) p.1) ++ [g.getD 0 0] ++ p.2.drop (ahead (makeL (uni parts g) [] 2) p.1))
def setsGo (parts : List (List Sp)) : List (List Int) → List (List Sp) × List Int → List (List Sp) × List Int
 | [], p => p
 | g :: t, p => setsGo parts t (setsStep parts g p)
def setsL (parts : List (List Sp)) (gs : List (List Int)) : List (List Sp) × List Int := setsGo parts gs ([], [])
theorem uni_sm (parts : List (List Sp)) (h : ∀ x ∈ parts, Sm x) : ∀ g : List Int, Sm (uni parts g)
 | [] => fun s hs => by cases hs
 | k :: t => fun s hs => by
  rcases List.mem_append.1 hs with hs | hs
  ·by_cases c : k.toNat < parts.length
   ·exact h _ (mem_getD parts [] _ c) s hs
   ·rw [List.getD_eq_getElem?_getD, List.getElem?_eq_none (by omega)] at hs
    cases hs
  ·exact uni_sm parts h t s hs
set_option maxHeartbeats 8000000 in
theorem sets_calls (X : Nat → Prop) (vp vn vt vg : Value) (parts : List (List Sp)) (next : List (List Int)) (tags : List Int) (gs : List (List Int)) (w : World) (hX : ∀ k, X k → k < w.heap.size) (hp : PV kSps X w vp parts) (hn : PV kRow X w vn next) (ht : PV kInt X w vt tags) (hg : PV kRow X w vg gs)
  (hq : GQ parts.length parts.length gs) (hpl : parts.length ≤ 100000) (hsm : ∀ x ∈ parts, Sm x) (hu : ∀ g ∈ gs, (uni parts g).length ≤ 10000 ∧ (makeL (uni parts g) [] 2).length ≠ 0) :
  Calls Tryz.prog 81 #[.agg #[vp, vn, vt], vg] w fun e w' => ∃ v1 v2, e = .returned (.tuple #[v1, v2]) ∧ PV kSps X w' v1 (setsL parts gs).1 ∧ PV kInt X w' v2 (setsL parts gs).2 ∧ Below w.heap.size w w' := by
 have H0 := aM hp
 have H1 := aM hn
 have H2 := aM ht
 have H3 := aM hg
 have HQ := aM hq
 have HSM := aM hsm
 have HU := aM hu
 obtain ⟨Ap, cp, rfl, _, _⟩ := hp.now
 obtain ⟨An, cn, rfl, _, _⟩ := hn.now
 obtain ⟨At, ct, rfl, _, _⟩ := ht.now
 obtain ⟨Ag, cg, rfl, _, _⟩ := hg.now
 have hgl : gs.length ≤ 100000 := by have := hq.len; omega
 obtain ⟨i0, hi0, _, hsz0, _⟩ := info_parts info91
 obtain ⟨j0, hj0, _, hjz0, _⟩ := info_parts info3'
 obtain ⟨r, hr⟩ : ∃ q, q = setsL parts gs := ⟨_, rfl⟩
 rw [← hr]
 have HR := aM (show setsGo parts (gs.drop 0) ([], []) = r from hr.symm)
 have HS := aM ((((Sep.start hX).push_box [.slice Ap parts.length cp, .slice An next.length cn, .slice At tags.length ct] 80).push_ro (Below.refl _ _) (PV.nil kSps _ _)).push_ro (Below.refl _ _) (PV.nil kInt _ _))
 clear hp hn ht hg hq hsm hu hX hr
 go_enter Tryz.func81, Tryz.ntmps81
 go_wp2_with fail
 go_loopg [6, 7, 8] gs.length (fun m v6 v7 v8 w' => ∃ (i : Nat) (p : List (List Sp) × List Int), v8 = .int .i64 i ∧ Aside0 (i + m = gs.length) ∧ Aside0 (p.1.length = i ∧ p.2.length = i ∧ ∀ x ∈ p.1, x.length ≠ 0) ∧ Aside0 (setsGo parts (gs.drop i) p = r) ∧ Aside0 (Sep X w w' [.box w.heap.size 80 [.slice Ap parts.length cp, .slice An next.length cn, .slice At tags.length ct], .ro kSps v6 p.1, .ro kInt v7 p.2]))
 case atStart => exact ⟨0, ([], []), rfl, ⟨by omega⟩, ⟨rfl, rfl, fun x hx => by cases hx⟩, HR, HS⟩
 case round =>
  clear HS HR
  obtain ⟨i, p, rfl, HJ, HP, HR, HS⟩ := hrel
  obtain ⟨A6, c6, e6⟩ := HS.out.rform 1 rfl
  obtain ⟨A7, c7, e7⟩ := HS.out.rform 2 rfl
  subst e6
  subst e7
  cases gk with
  | zero =>
   have e1 : decide ((i : Int) < (gs.length : Int)) = false := dF (by have := HJ.out; omega)
   have e2 : decide (i < gs.length) = false := dF (by have := HJ.out; omega)
   have q0 : p = r := by
    have := HR.out
    rw [List.drop_eq_nil_of_le (by have := HJ.out; omega)] at this
    exact this
   clear HR
   subst q0
   go_wp2_with fail
   go_ret2
   exact ⟨_, _, rfl, HS.out.res 1 rfl, HS.out.res 2 rfl, HS.out.below⟩
  | succ k1 =>
   have hi : i < gs.length := by have := HJ.out; omega
   have e1 : decide ((i : Int) < (gs.length : Int)) = true := dT (by omega)
   have e2 : decide (i < gs.length) = true := dT hi
   have hi0' : (0 : Int) ≤ (i : Int) := by omega
   have hi1 : (i : Int) < (gs.length : Int) := by omega
   obtain ⟨ag, cg', u, eg, hgu, yg⟩ := H3.out.row i hi
   cases eg
   obtain ⟨Au, cu, rfl, _, _⟩ := hgu.now
   have HGU := aM hgu
   have HYG := aM yg
   have hmem := mem_getD gs [] i hi
   have HGQ := aM (HQ.out.ne _ hmem)
   have HUU := aM (HU.out _ hmem)
   have HR1 := HR.out
   rw [drop_at gs [] i hi, setsGo] at HR1
   generalize gs.getD i [] = g at *
   have HR2 := aM HR1
   obtain ⟨un, hun⟩ : ∃ q, q = uni parts g := ⟨_, rfl⟩
   have HUN := aM (show [] ++ uni parts (g.drop 0) = un from hun.symm)
   rw [← hun] at HUU
   have HSU := aM (show Sm un by rw [hun]; exact uni_sm parts HSM.out g)
   have HST := aM (show setsStep parts g p = (ins10 (makeL un [] 2) p.1, p.2.take (ahead (makeL un [] 2) p.1) ++ [g.getD 0 0] ++ p.2.drop (ahead (makeL un [] 2) p.1)) by rw [hun]; rfl)
   have hs := HS.out.push_nil kSp 124
   clear HS hgu yg hmem HR1 HR hun
   have HS := aM hs
   have hgll : g.length ≤ 100000 := by have := HGQ.out.2.1; omega
   clear hs
   go_wp2_with fail
   go_loopg [9, 10] g.length (fun m v9 v10 w' => ∃ (k : Nat) (s : List Sp), v10 = .int .i64 k ∧ Aside0 (k + m = g.length) ∧ Aside0 (s ++ uni parts (g.drop k) = un) ∧ Aside0 (Sep X w w' [.box w.heap.size 80 [.slice Ap parts.length cp, .slice An next.length cn, .slice At tags.length ct], .ro kSps (.slice A6 p.1.length c6) p.1, .ro kInt (.slice A7 p.2.length c7) p.2, .row kSp 124 v9 s]))
   case atStart => exact ⟨0, [], rfl, ⟨by omega⟩, HUN, HS⟩
   case round =>
    clear HS HUN
    obtain ⟨k, s, rfl, HK, HUN, HS⟩ := hrel
    cases gk with
    | succ k2 =>
     have hk : k < g.length := by have := HK.out; omega
     have e3 : decide ((k : Int) < (g.length : Int)) = true := dT (by omega)
     have e4 : decide (k < g.length) = true := dT hk
     have hk0 : (0 : Int) ≤ (k : Int) := by omega
     have hk1 : (k : Int) < (g.length : Int) := by omega
     have yg1 := pw_cell_below HS.out.below HYG.out
     obtain ⟨au, cu', eu, yk⟩ := int_cell HGU.out k hk
     cases eu
     have hx := HGQ.out.2.2 _ (mem_getD g 0 k hk)
     have HUN1 := HUN.out
     rw [drop_at g 0 k hk, uni] at HUN1
     generalize g.getD k 0 = x at *
     obtain ⟨xn, rfl⟩ := Int.eq_ofNat_of_zero_le hx.1
     rw [Int.toNat_natCast, ← List.append_assoc] at HUN1
     have hxn : xn < parts.length := by omega
     have hxn0 : (0 : Int) ≤ (xn : Int) := by omega
     have hxn1 : (xn : Int) < (parts.length : Int) := by omega
     obtain ⟨ap, cp', up, ep, hup, yp⟩ := H0.out.row xn hxn
     cases ep
     obtain ⟨Aq, cq, rfl, _, _⟩ := hup.now
     have HUP := aM hup
     generalize parts.getD xn [] = q at *
     have HUN2 := aM HUN1
     have HYP := aM yp
     have HYK := aM yk
     have HLN := aM (show (s.length + q.length) * 16 ≤ 140737488355328 by have h1 := HUU.out.1; rw [← HUN2.out, lA, lA] at h1; omega)
     clear hup HUN1 HUN hx yp yk
     go_wp2_with fail
     have hs := HS.out.drew
     clear HS; have HS := aM hs; clear hs
     refine start_ (n := 14) (S := fun w' => w'.cell? ⟨w.heap.size, 0, none⟩ = some (.slice (some ap) parts.length cp) ∧ w'.cell? (ag.add i) = some (.slice (some au) g.length cu) ∧ w'.cell? (au.add k) = some (.int .i64 (xn : Int)) ∧ w'.cell? (ap.add xn) = some (.slice Aq q.length cq)) (ds := [12]) #[false, false, false, false, false, false, false, false, false, false, false, false, false, false] (by kernel_rfl) rfl rfl ⟨((HS.out.box 0 rfl).cell 0 rfl), (pw_cell_below HS.out.below HYG.out), (pw_cell_below HS.out.below HYK.out), (pw_cell_below HS.out.below HYP.out)⟩ (fun hHeld => ?_)
     refine pure_ (i := 0) (N := some 29) (v := ?_) (a' := ?_) (bv 14 1) rfl rfl (by kernel_rfl) (fun _ _ _ h => h) (Or.inl ⟨by rfl, ?_⟩) ?_ ?_
     rotate_left
     ·intro w'
      go_simp
      with_reducible rfl
     rotate_left
     ·simp only [Act.put, qA, qB, qC, i64_w, i32_w]
      rfl
     refine pure_ (i := 1) (N := some 30) (v := ?_) (a' := ?_) (bv 14 3) rfl rfl (by kernel_rfl) (fun _ _ _ h => h) (Or.inl ⟨by rfl, ?_⟩) ?_ ?_
     rotate_left
     ·intro w'
      go_simp
      with_reducible rfl
     rotate_left
     ·simp only [Act.put, qA, qB, qC, i64_w, i32_w]
      rfl
     refine pure_ (i := 3) (N := some 32) (v := ?_) (a' := ?_) (bv 14 11) rfl rfl (by kernel_rfl) (fun _ _ _ h => h) (Or.inl ⟨by rfl, ?_⟩) ?_ ?_
     rotate_left
     ·intro w'
      go_simp
      with_reducible rfl
     rotate_left
     ·simp only [Act.put, qA, qB, qC, i64_w, i32_w]
      rfl
     refine pure_ (i := 4) (N := some 33) (v := ?_) (a' := ?_) (bv 14 27) rfl rfl (by kernel_rfl) (fun _ _ _ h => h) (Or.inl ⟨by rfl, ?_⟩) ?_ ?_
     rotate_left
     ·intro w'
      go_simp
      with_reducible rfl
     rotate_left
     ·simp only [Act.put, qA, qB, qC, i64_w, i32_w]
      rfl
     refine pure_ (i := 5) (N := some 34) (v := ?_) (a' := ?_) (bv 14 59) rfl rfl (by kernel_rfl) (fun _ _ _ h => h) (Or.inl ⟨by rfl, ?_⟩) ?_ ?_
     rotate_left
     ·intro w'
      go_simp
      with_reducible rfl
     rotate_left
     ·simp only [Act.put, qA, qB, qC, i64_w, i32_w]
      rfl
     refine pure_ (i := 7) (N := some 36) (v := ?_) (a' := ?_) (bv 14 187) rfl rfl (by kernel_rfl) (fun _ _ _ h => h) (Or.inl ⟨by rfl, ?_⟩) ?_ ?_
     rotate_left
     ·intro w'
      go_simp
      with_reducible rfl
     rotate_left
     ·simp only [Act.put, qA, qB, qC, i64_w, i32_w]
      rfl
     refine take_ (i := 2) (N := some 31) (v := ?_) (a' := ?_) (bv 14 191) rfl rfl (by kernel_rfl) (fun _ _ _ h => h) (Or.inl ⟨by rfl, ?_⟩) hHeld ?_ ?_
     rotate_left
     ·rintro w' ⟨s0, s1, s2, s3⟩
      go_simp
      with_reducible rfl
     rotate_left
     ·simp only [Act.put, qA, qB, qC, i64_w, i32_w]
      rfl
     refine take_ (i := 6) (N := some 35) (v := ?_) (a' := ?_) (bv 14 255) rfl rfl (by kernel_rfl) (fun _ _ _ h => h) (Or.inl ⟨by rfl, ?_⟩) hHeld ?_ ?_
     rotate_left
     ·rintro w' ⟨s0, s1, s2, s3⟩
      go_simp
      with_reducible rfl
     rotate_left
     ·simp only [Act.put, qA, qB, qC, i64_w, i32_w]
      rfl
     refine pure_ (i := 8) (N := some 37) (v := ?_) (a' := ?_) (bv 14 511) rfl rfl (by kernel_rfl) (fun _ _ _ h => h) (Or.inl ⟨by rfl, ?_⟩) ?_ ?_
     rotate_left
     ·intro w'
      go_simp
      with_reducible rfl
     rotate_left
     ·simp only [Act.put, qA, qB, qC, i64_w, i32_w]
      rfl
     refine take_ (i := 9) (N := some 38) (v := ?_) (a' := ?_) (bv 14 1023) rfl rfl (by kernel_rfl) (fun _ _ _ h => h) (Or.inl ⟨by rfl, ?_⟩) hHeld ?_ ?_
     rotate_left
     ·rintro w' ⟨s0, s1, s2, s3⟩
      go_simp
      with_reducible rfl
     rotate_left
     ·simp only [Act.put, qA, qB, qC, i64_w, i32_w]
      rfl
     refine pure_ (i := 10) (N := some 39) (v := ?_) (a' := ?_) (bv 14 2047) rfl rfl (by kernel_rfl) (fun _ _ _ h => h) (Or.inl ⟨by rfl, ?_⟩) ?_ ?_
     rotate_left
     ·intro w'
      go_simp
      with_reducible rfl
     rotate_left
     ·simp only [Act.put, qA, qB, qC, i64_w, i32_w]
      rfl
     refine take_ (i := 11) (N := some 40) (v := ?_) (a' := ?_) (bv 14 4095) rfl rfl (by kernel_rfl) (fun _ _ _ h => h) (Or.inl ⟨by rfl, ?_⟩) hHeld ?_ ?_
     rotate_left
     ·rintro w' ⟨s0, s1, s2, s3⟩
      go_simp
      with_reducible rfl
     rotate_left
     ·simp only [Act.put, qA, qB, qC, i64_w, i32_w]
      rfl
     refine last_ (i := 12) (N := some 41) #[true, true, true, true, true, true, true, true, true, true, true, true, true, false] rfl rfl (by kernel_rfl) (by decide) (fun K hK => ?_)
     refine sgrow_step kSp 3 (by rfl) rfl (.tmp 29) (.tmp 40) 91 124 (.agg #[.int .i64 0, .int .i64 0]) 16 rfl Tryz.underlying91 info124 rfl (by decide) (by omega) _ _ s q rfl rfl HS.out rfl (HS.out.arg HUP.out) HLN.out ?_
     intro v1 w1 hs
     clear HS; have HS := aM hs; clear hs
     refine hK.out _ _ ?_
     clear hK K
     refine norm_ (a' := ?_) ?_ ?_
     rotate_left
     ·show Act.put _ (some 41) _ = _
      simp only [Act.put, qA, qB, qC, i64_w, i32_w]
      rfl
     refine pure_ (i := 13) (N := some 9) (v := ?_) (a' := ?_) (bv 14 16383) rfl rfl (by kernel_rfl) (fun _ _ _ h => h) (Or.inl ⟨by rfl, ?_⟩) ?_ ?_
     rotate_left
     ·intro w'
      go_simp
      with_reducible rfl
     rotate_left
     ·simp only [Act.put, qA, qB, qC, i64_w, i32_w]
      rfl
     refine done_ (by kernel_rfl) ?_
     go_wp2_with fail
     go_roundg k2
     case measure => omega
     case rel => exact ⟨k + 1, s ++ q, by go_num, ⟨by have := HK.out; omega⟩, HUN2, HS⟩
    | zero =>
     have e3 : decide ((k : Int) < (g.length : Int)) = false := dF (by have := HK.out; omega)
     have e4 : decide (k < g.length) = false := dF (by have := HK.out; omega)
     have yg1 := pw_cell_below HS.out.below HYG.out
     have q0 : s = un := by
      have := HUN.out
      rw [List.drop_eq_nil_of_le (by have := HK.out; omega)] at this
      simpa [uni] using this
     clear HUN
     subst q0
     have hs := HS.out.sealRo 3 rfl
     clear HS
     have HS := aM hs
     clear hs
     obtain ⟨A9, c9, e9⟩ := HS.out.rform 3 rfl
     subst e9
     have hsne := HUU.out.2
     obtain ⟨z, hz⟩ : ∃ q, q = makeL s [] 2 := ⟨_, rfl⟩
     rw [← hz] at HST hsne
     have HZ := aM hz.symm
     have HZN := aM hsne
     have HAL := aM (ahead_le z p.1)
     have HPL := aM (show p.1.length = i ∧ p.2.length = i ∧ i < 100000 from ⟨HP.out.1, HP.out.2.1, by omega⟩)
     clear hz hsne
     go_wp2_with (first
      | (go_at_call 58; (with_reducible refine (Norm_calls _ _ s _ HS.out.lt (HS.out.ro 3 rfl) HSU.out HUU.out.1).mono ?_); rintro ee w5 ⟨v5, rfl, hv, hb⟩; rw [HZ.out] at hv; have hs := HS.out.push_ro hb hv; clear hv hb; obtain ⟨A5, c5, e5⟩ := hs.rform 4 rfl; subst e5; clear HS; have HS := aM hs; clear hs))
     clear e3 e4
     go_loopg [11] (ahead z p.1) (fun m v11 w' => ∃ (k : Nat), v11 = .int .i64 k ∧ Aside0 (k + m = ahead z p.1) ∧ Aside0 (Sep X w w' [.box w.heap.size 80 [.slice Ap parts.length cp, .slice An next.length cn, .slice At tags.length ct], .ro kSps (.slice A6 p.1.length c6) p.1, .ro kInt (.slice A7 p.2.length c7) p.2, .ro kSp (.slice A9 s.length c9) s, .ro kSp (.slice A5 z.length c5) z]))
     case atStart => exact ⟨0, rfl, ⟨by omega⟩, HS⟩
     case round =>
      clear HS yg1
      obtain ⟨k, rfl, HK, HS⟩ := hrel
      obtain ⟨adz, cz, ez, hz0⟩ := first_cell (HS.out.ro 4 rfl) HZN.out
      cases ez
      have hk0 : (0 : Int) ≤ (k : Int) := by omega
      have hlz : (0 : Int) < (z.length : Int) := by have := HZN.out; omega
      cases gk with
      | succ k2 =>
       have hk : k < p.1.length := by have := HK.out; have := HAL.out; omega
       have hk3 : k < 100000 := by have := HPL.out; omega
       obtain ⟨ado, co', uo, eo, huo, hco2⟩ := (HS.out.ro 1 rfl).row k hk
       cases eo
       have hno := HP.out.2.2 _ (mem_at p.1 k hk)
       have hlt := ahead_lt z p.1 k (by have := HK.out; omega)
       obtain ⟨ad2, c2, rfl, hy0⟩ := first_cell huo hno
       have d1 : decide ((k : Int) < (p.1.length : Int)) = true := dT (by omega)
       have d2 : decide (lo10 (p.1.getD k []) < lo10 z) = true := dT hlt
       have hlo : (0 : Int) < ((p.1.getD k []).length : Int) := by omega
       have hk1 : (k : Int) < (p.1.length : Int) := by omega
       clear huo hlt hno
       generalize p.1.getD k [] = y at *
       generalize lo10 z = n1 at *
       generalize lo10 y = n2 at *
       go_wp2_with fail
       go_quiet (fail)
       have HS2 := aM (HS.out.drewN nq)
       go_wp2_with fail
       go_roundg k2
       case measure => omega
       case rel => exact ⟨k + 1, by go_num, ⟨by have := HK.out; omega⟩, HS2⟩
      | zero =>
       have hke : k = ahead z p.1 := by have := HK.out; omega
       have hkp : k ≤ p.1.length := by rw [hke]; exact HAL.out
       have HKE := aM hke
       have hkq : k ≤ p.2.length := by have := HPL.out; omega
       have hk3 : k < 100000 := by have := HPL.out; omega
       obtain ⟨u1, hu1, hrun1⟩ := (HS.out.ro 1 rfl).upto (P := Tryz.prog) 78 91 Tryz.underlying78 hi0 k hkp
       obtain ⟨u2, hu2, hrun2⟩ := (HS.out.ro 1 rfl).from_ (P := Tryz.prog) 78 91 Tryz.underlying78 hi0 hsz0 k hkp
       obtain ⟨u3, hu3, hrun3⟩ := (HS.out.ro 2 rfl).upto (P := Tryz.prog) 26 3 Tryz.underlying26 hj0 k hkq
       obtain ⟨u4, hu4, hrun4⟩ := (HS.out.ro 2 rfl).from_ (P := Tryz.prog) 26 3 Tryz.underlying26 hj0 hjz0 k hkq
       have hs := ((((((HS.out.push_ro (Below.refl _ _) hu1).push_ro (Below.refl _ _) (hu2.to (fun _ _ h => Ys_ro h))).push_ro (Below.refl _ _) (hu3.to (fun _ _ h => Ys_ro (Ys_ro h)))).push_ro (Below.refl _ _) (hu4.to (fun _ _ h => Ys_ro (Ys_ro (Ys_ro h))))).push_nil kSps 91).push_nil kInt 3)
       have HS2 := aM hs
       have HG0 := aM (show 1 ≤ g.length from HGQ.out.1)
       have hgn : 0 < g.length := by have := HG0.out; omega
       have hgn1 : (0 : Int) < (g.length : Int) := by omega
       obtain ⟨ag0, cg0, eg0, yg0⟩ := int_cell HGU.out 0 HG0.out
       cases eg0
       rw [add_0] at yg0
       have HYG0 := aM yg0
       have HFP := aM (show setsStep parts g p = ([] ++ p.1.take k ++ [z] ++ p.1.drop k, [] ++ p.2.take k ++ [g.getD 0 0] ++ p.2.drop k) by rw [HST.out, ← HKE.out]; unfold ins10; rw [← HKE.out]; rfl)
       have HPM := aM (show ∀ x ∈ [] ++ p.1.take k ++ [z] ++ p.1.drop k, x.length ≠ 0 from fun x hx => by
        simp only [List.nil_append, List.mem_append, List.mem_singleton] at hx
        rcases hx with (hx | rfl) | hx
        ·exact HP.out.2.2 _ (List.mem_of_mem_take hx)
        ·exact HZN.out
        ·exact HP.out.2.2 _ (List.mem_of_mem_drop hx))
       generalize g.getD 0 0 = g0 at *
       rcases Nat.lt_or_ge k p.1.length with hk | hk
       case' inl =>
        obtain ⟨ado, co', uo, eo, huo, hco2⟩ := (HS.out.ro 1 rfl).row k hk
        cases eo
        have hno := HP.out.2.2 _ (mem_at p.1 k hk)
        have hge := ahead_at z p.1 (by rw [← hke]; exact hk)
        rw [← hke] at hge
        obtain ⟨ad2, c2, rfl, hy0⟩ := first_cell huo hno
        have d1 : decide ((k : Int) < (p.1.length : Int)) = true := dT (by omega)
        have d2 : decide (lo10 (p.1.getD k []) < lo10 z) = false := dF hge
        have hlo : (0 : Int) < ((p.1.getD k []).length : Int) := by omega
        have hk1 : (k : Int) < (p.1.length : Int) := by omega
        clear huo hge hno
        generalize p.1.getD k [] = y at *
       case' inr =>
        have d1 : decide ((k : Int) < (p.1.length : Int)) = false := dF (by omega)
        have d3 : decide (k < p.1.length) = false := dF (by omega)
       all_goals
        clear hke hu1 hu2 hu3 hu4 HP HAL HST HUU hs HS
        go_wp2_with fail
        go_quiet (fail)
        have HS := aM (HS2.out.drewN nq)
        clear HS2
        go_wp2_with (first
         | ((with_reducible refine gate_builtin (b := .append) (xs := #[.tmp 64, .tmp 67]) rfl ?_); at_builtin; refine sgrow kSps 9 rfl (.tmp 64) (.tmp 67) 78 91 (.slice none 0 0) 24 rfl Tryz.underlying78 info91 rfl (by decide) (by omega) _ _ [] (p.1.take k) rfl rfl HS.out rfl (HS.out.ro 5 rfl) (by have := HPL.out; simp; omega) ?_; clear HS; intro v12 w12 hs; have HS := aM hs; clear hs)
         | ((with_reducible refine gate_dst (N := 71) rfl ?_); refine slit kSps 91 ?hg (N := 71) ?hd (xs := [z]) (inner := [.slice (some adz) z.length c5]) ?hr HS.out ?hp (by simp) ?_; (case hd => rfl); (case hg => rfl); (case hr => first | (go_simp; done) | (go_simp; rfl)); (case hp => exact Reps.one (PK.slice (HS.out.ro 4 rfl)) (Reps.none _ _)); clear HS; intro v13 w13 hs; have HS := aM hs; clear hs)
         | ((with_reducible refine gate_builtin (b := .append) (xs := #[.tmp 69, .tmp 71]) rfl ?_); at_builtin; refine sgrow kSps 9 rfl (.tmp 69) (.tmp 71) 78 91 (.slice none 0 0) 24 rfl Tryz.underlying78 info91 rfl (by decide) (by omega) _ _ ([] ++ p.1.take k) [z] rfl rfl HS.out rfl (HS.out.ro 11 rfl) (by have := HPL.out; simp; omega) ?_; clear HS; intro v14 w14 hs; have HS := aM hs; clear hs)
         | ((with_reducible refine gate_builtin (b := .append) (xs := #[.tmp 73, .tmp 76]) rfl ?_); at_builtin; refine sgrow kSps 9 rfl (.tmp 73) (.tmp 76) 78 91 (.slice none 0 0) 24 rfl Tryz.underlying78 info91 rfl (by decide) (by omega) _ _ ([] ++ p.1.take k ++ [z]) (p.1.drop k) rfl rfl HS.out rfl (HS.out.ro 6 rfl) (by have := HPL.out; simp; omega) ?_; clear HS; intro v15 w15 hs; have HS := aM hs; clear hs)
         | ((with_reducible refine gate_builtin (b := .append) (xs := #[.tmp 79, .tmp 82]) rfl ?_); at_builtin; refine sgrow kInt 10 rfl (.tmp 79) (.tmp 82) 26 3 (.int .i64 0) 8 rfl Tryz.underlying26 info3' rfl (by decide) (by omega) _ _ [] (p.2.take k) rfl rfl HS.out rfl (HS.out.ro 7 rfl) (by have := HPL.out; simp; omega) ?_; clear HS; intro v16 w16 hs; have yg2 := pw_cell_below hs.below HYG.out; have yg3 := pw_cell_below hs.below HYG0.out; have HS := aM hs; clear hs)
         | ((with_reducible refine gate_dst (N := 91) rfl ?_); refine slit kInt 3 ?hg (N := 91) ?hd (xs := [g0]) (inner := [.int .i64 g0]) ?hr HS.out ?hp (by simp) ?_; (case hd => rfl); (case hg => rfl); (case hr => first | (go_simp; done) | (go_simp; rfl)); (case hp => exact Reps.one (PK.scalar _) (Reps.none _ _)); clear HS; intro v17 w17 hs; have HS := aM hs; clear hs)
         | ((with_reducible refine gate_builtin (b := .append) (xs := #[.tmp 84, .tmp 91]) rfl ?_); at_builtin; refine sgrow kInt 10 rfl (.tmp 84) (.tmp 91) 26 3 (.int .i64 0) 8 rfl Tryz.underlying26 info3' rfl (by decide) (by omega) _ _ ([] ++ p.2.take k) [g0] rfl rfl HS.out rfl (HS.out.ro 12 rfl) (by have := HPL.out; simp; omega) ?_; clear HS; intro v18 w18 hs; have HS := aM hs; clear hs)
         | ((with_reducible refine gate_builtin (b := .append) (xs := #[.tmp 93, .tmp 96]) rfl ?_); at_builtin; refine sgrow kInt 10 rfl (.tmp 93) (.tmp 96) 26 3 (.int .i64 0) 8 rfl Tryz.underlying26 info3' rfl (by decide) (by omega) _ _ ([] ++ p.2.take k ++ [g0]) (p.2.drop k) rfl rfl HS.out rfl (HS.out.ro 8 rfl) (by have := HPL.out; simp; omega) ?_; clear HS; intro v19 w19 hs; have HS := aM hs; clear hs))
        have HSE := aM ((((HS.out.sealRo 9 rfl).sealRo 10 rfl).take 11).cut 1 8)
        go_roundg k1
        case measure => omega
        case rel => exact ⟨i + 1, ([] ++ p.1.take k ++ [z] ++ p.1.drop k, [] ++ p.2.take k ++ [g0] ++ p.2.drop k), by go_num, ⟨by have := HJ.out; omega⟩, ⟨by have := HPL.out; simp; omega, by have := HPL.out; simp; omega, HPM.out⟩, ⟨by rw [← HFP.out]; exact HR2.out⟩, HSE⟩
end Go.Proofs.YtplhfgobeicegaaGreatDoor.P
namespace Go.Proofs.YtplhfgobeicegaaGreatDoor.P
open Go Go.RowKit Go.Proofs.YtplhfgobeicegaaGreatDoorW.PrintWords Go.Proofs.YtplhfgobeicegaaGreatDoor.PX
def natsL (n : Nat) : List Int := (List.range n).map (fun (k : Nat) => (k : Int))
def leastRow (next : List (List Int)) (l of_ keys at_ : List Int) (s : Int) : List Int := keys.map (fun k => if 0 ≤ kindL next l of_ s.toNat k.toNat then at_.getD (kindL next l of_ s.toNat k.toNat).toNat 0 else kindL next l of_ s.toNat k.toNat)
def leastB (_parts : List (List Sp)) (next : List (List Int)) (tags l of_ : List Int) (ps : List (List Sp) × List Int) : DfaS :=
 ⟨ps.1, (reachL next l of_ ps.2).1.map (leastRow next l of_ ps.2 (reachL next l of_ ps.2).2), (reachL next l of_ ps.2).1.map (fun s => tags.getD s.toNat 0)⟩
def leastC (parts : List (List Sp)) (next : List (List Int)) (tags l of_ : List Int) : DfaS :=
 leastB parts next tags l of_ (setsL parts (groupsL parts.length next l of_ (reachL next l of_ (natsL parts.length)).1))
def leastD (parts : List (List Sp)) (next : List (List Int)) (tags : List Int) : DfaS :=
 leastC parts next tags (liveL next tags) (firstsL parts.length next tags (liveL next tags))
def leastL (parts : List (List Sp)) (next : List (List Int)) (tags : List Int) : DfaS := leastD (bareP parts) (next.map (bareR parts)) tags
theorem liveGo_len (next : List (List Int)) (tags : List Int) : ∀ (f : Nat) (l : List Int), (liveGo next tags f l).length = l.length
 | 0, _ => rfl
 | f + 1, l => by
  unfold liveGo
  split
  ·rw [liveGo_len next tags f, lpass_len]
  ·rw [lpass_len]
theorem live_len (next : List (List Int)) (tags : List Int) : (liveL next tags).length = tags.length := by
 unfold liveL
 rw [liveGo_len]; simp
theorem bareR_len : ∀ (parts : List (List Sp)) (row : List Int), row.length = parts.length → (bareR parts row).length = (bareP parts).length
 | [], row, h => by simp [bareR, bareP]
 | p :: ps, [], h => by simp at h
 | p :: ps, x :: xs, h => by
  have ih := bareR_len ps xs (by simpa using h)
  unfold bareP at ih ⊢
  rw [bareR, List.filter_cons]
  by_cases c : 0 < p.length
  ·rw [if_pos c, dT c, if_pos rfl, List.length_cons, List.length_cons, ih]
  ·rw [if_neg c, dF c, if_neg (by decide), ih]
theorem bareR_mem : ∀ (parts : List (List Sp)) (row : List Int) (x : Int), x ∈ bareR parts row → x ∈ row
 | [], row, x, h => by simp [bareR] at h
 | p :: ps, [], x, h => by simp [bareR] at h
 | p :: ps, y :: xs, x, h => by
  rw [bareR] at h
  split at h
  ·rcases List.mem_cons.1 h with rfl | h
   ·exact List.mem_cons_self
   ·exact List.mem_cons_of_mem _ (bareR_mem ps xs x h)
  ·exact List.mem_cons_of_mem _ (bareR_mem ps xs x h)
theorem ok12_bare (parts : List (List Sp)) (next : List (List Int)) (n : Nat) (h : Ok12 parts.length n next) : Ok12 (bareP parts).length n (next.map (bareR parts)) := by
 intro i hi
 rw [List.length_map] at hi
 have e : (next.map (bareR parts)).getD i [] = bareR parts (next.getD i []) := by simp [List.getD_eq_getElem?_getD, hi]
 rw [e]
 have hl := bareR_len parts _ (h i hi).1
 refine ⟨hl, fun k hk => ?_⟩
 have hm := bareR_mem parts _ _ (mem_getD (bareR parts (next.getD i [])) 0 k (by omega))
 obtain ⟨j, hj, hj2⟩ := List.mem_iff_getElem.1 hm
 have := (h i hi).2 j (by rw [← (h i hi).1]; exact hj)
 rw [List.getD_eq_getElem?_getD (i := j), List.getElem?_eq_getElem hj, Option.getD_some, hj2] at this
 exact this
theorem setsStep_len (parts : List (List Sp)) (g : List Int) (p : List (List Sp) × List Int) (h : p.1.length = p.2.length) : (setsStep parts g p).1.length = p.1.length + 1 ∧ (setsStep parts g p).2.length = p.2.length + 1 := by
 have h2 := ahead_le (makeL (uni parts g) [] 2) p.1
 refine ⟨ins_len _ _, ?_⟩
 show (p.2.take (ahead (makeL (uni parts g) [] 2) p.1) ++ [g.getD 0 0] ++ p.2.drop (ahead (makeL (uni parts g) [] 2) p.1)).length = _
 simp only [lA, List.length_take, List.length_drop, lS]
 omega
theorem setsGo_keys (parts : List (List Sp)) (P : Nat) : ∀ (gs : List (List Int)) (p : List (List Sp) × List Int), (∀ g ∈ gs, 1 ≤ g.length ∧ ∀ x ∈ g, 0 ≤ x ∧ x < (P : Int)) → (∀ x ∈ p.2, 0 ≤ x ∧ x < (P : Int)) → p.1.length = p.2.length →
  (∀ x ∈ (setsGo parts gs p).2, 0 ≤ x ∧ x < (P : Int)) ∧ (setsGo parts gs p).1.length = (setsGo parts gs p).2.length ∧ (setsGo parts gs p).2.length = p.2.length + gs.length
 | [], p, _, h, h2 => ⟨h, h2, rfl⟩
 | g :: t, p, hg, h, h2 => by
  have hgg := hg g List.mem_cons_self
  have := setsGo_keys parts P t (setsStep parts g p) (fun g' hg' => hg g' (List.mem_cons_of_mem _ hg')) (fun x hx => by
   unfold setsStep at hx
   simp only [List.mem_append, List.mem_singleton] at hx
   rcases hx with (hx | rfl) | hx
   ·exact h x (List.mem_of_mem_take hx)
   ·exact hgg.2 _ (mem_getD g 0 0 hgg.1)
   ·exact h x (List.mem_of_mem_drop hx)) (by have := setsStep_len parts g p h2; omega)
  have h3 := setsStep_len parts g p h2
  rw [setsGo]
  refine ⟨this.1, this.2.1, ?_⟩
  have h4 := this.2.2
  rw [List.length_cons]
  omega
theorem sets_keys (parts : List (List Sp)) (gs : List (List Int)) (h : GQ parts.length parts.length gs) : (∀ x ∈ (setsL parts gs).2, 0 ≤ x ∧ x < (parts.length : Int)) ∧ (setsL parts gs).1.length = (setsL parts gs).2.length ∧ (setsL parts gs).2.length ≤ parts.length := by
 have := setsGo_keys parts parts.length gs ([], []) (fun g hg => ⟨(h.ne g hg).1, (h.ne g hg).2.2⟩) (fun x hx => by cases hx) rfl
 refine ⟨this.1, this.2.1, ?_⟩
 have h2 := this.2.2
 have := h.len
 show (setsGo parts gs ([], [])).2.length ≤ _
 rw [h2]
 simpa using this
theorem nats_mem (n : Nat) : ∀ x ∈ natsL n, 0 ≤ x ∧ x < (n : Int) := by
 intro x hx
 obtain ⟨k, hk, rfl⟩ := List.mem_map.1 hx
 have := List.mem_range.1 hk
 omega
theorem nats_step (k : Nat) : natsL (k + 1) = natsL k ++ [(k : Int)] := by
 unfold natsL
 rw [List.range_succ, List.map_append]; rfl
theorem nats_len (k : Nat) : (natsL k).length = k := by simp [natsL]
end Go.Proofs.YtplhfgobeicegaaGreatDoor.P
