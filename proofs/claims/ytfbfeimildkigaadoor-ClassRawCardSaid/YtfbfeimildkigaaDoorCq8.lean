/- Part 8 of the proof: S13h, S14a, T07a, T08a. -/
import Derived.Lib.SliceRun
import Derived.Test.YtfbfeimildkigaaDoorCq7
namespace Go.Proofs.YtfbfeimildkigaaDoor.P
open Go Go.RowKit Go.Proofs.YtfbfeimildkigaaDoorW.PrintWords Go.Proofs.YtfbfeimildkigaaDoorW.PrintLast Go.Proofs.YtfbfeimildkigaaDoorW.PrintMore Go.Proofs.YtfbfeimildkigaaDoor.PX
set_option linter.unusedVariables false
set_option linter.unusedSimpArgs false
set_option maxRecDepth 100000
def sameCol (next : List (List Int)) (a b : Nat) : Bool := next.all (fun row => decide (row.getD a 0 = row.getD b 0))
def colGo (next : List (List Int)) (c : Nat) : List Int → Nat → Int
  | [], _ => -1
  | f :: t, k => if sameCol next c f.toNat = true then (k : Int) else colGo next c t (k + 1)
def clStep (next : List (List Int)) (c : Nat) (p : List Int × List Int) : List Int × List Int :=
  if colGo next c p.1 0 < 0 then (p.1 ++ [(c : Int)], p.2 ++ [(p.1.length : Int)]) else (p.1, p.2 ++ [colGo next c p.1 0])
def clGo (next : List (List Int)) : Nat → Nat → List Int × List Int → List Int × List Int
  | 0, _, p => p
  | m + 1, c, p => clGo next m (c + 1) (clStep next c p)
def classesL (next : List (List Int)) : List Int × List Int := clGo next 256 0 ([], [])
structure ClOk (c : Nat) (p : List Int × List Int) : Prop where
  f : ∀ x ∈ p.1, 0 ≤ x ∧ x < 256
  len : p.1.length ≤ c
  of_ : p.2.length = c ∧ ∀ x ∈ p.2, 0 ≤ x ∧ x < (p.1.length : Int)
theorem colGo_lt (next : List (List Int)) (c : Nat) : ∀ (l : List Int) (k : Nat), -1 ≤ colGo next c l k ∧ colGo next c l k < ((k + l.length : Nat) : Int) ∧ (0 ≤ colGo next c l k → (k : Int) ≤ colGo next c l k)
  | [], k => by simp [colGo]; omega
  | f :: t, k => by
    have := colGo_lt next c t (k + 1)
    rw [colGo]
    simp only [List.length_cons]
    split <;> omega
theorem ClOk.step {c : Nat} {p : List Int × List Int} (h : ClOk c p) (hc : c < 256) (next : List (List Int)) : ClOk (c + 1) (clStep next c p) := by
  have ha := colGo_lt next c p.1 0
  unfold clStep
  split
  · refine ⟨fun x hx => ?_, by simp; exact h.len, by simp [h.of_.1], fun x hx => ?_⟩
    · rcases List.mem_append.1 hx with hx | hx
      · exact h.f x hx
      · obtain rfl := List.mem_singleton.1 hx
        omega
    · simp only [List.length_append, List.length_singleton]
      rcases List.mem_append.1 hx with hx | hx
      · have := h.of_.2 x hx; omega
      · obtain rfl := List.mem_singleton.1 hx
        omega
  · refine ⟨h.f, by have := h.len; show p.1.length ≤ c + 1; omega, by simp [h.of_.1], fun x hx => ?_⟩
    rcases List.mem_append.1 hx with hx | hx
    · exact h.of_.2 x hx
    · obtain rfl := List.mem_singleton.1 hx
      show 0 ≤ colGo next c p.1 0 ∧ colGo next c p.1 0 < (p.1.length : Int)
      omega
theorem ClOk.go (next : List (List Int)) : ∀ (m c : Nat) (p : List Int × List Int), c + m = 256 → ClOk c p → ClOk 256 (clGo next m c p)
  | 0, c, p, h, hp => by obtain rfl : c = 256 := by omega
                         exact hp
  | m + 1, c, p, h, hp => ClOk.go next m (c + 1) _ (by omega) (hp.step (by omega) next)
theorem clok_nil : ClOk 0 ([], []) := ⟨fun x hx => (by simp at hx), Nat.le_refl _, rfl, fun x hx => (by simp at hx)⟩
theorem classes_ok (next : List (List Int)) : ClOk 256 (classesL next) := ClOk.go next 256 0 _ rfl clok_nil
set_option maxHeartbeats 8000000 in
theorem classes_calls (X : Nat → Prop) (vn vt : Value) (next : List (List Int)) (tags : List Int) (w : World) (hX : ∀ k, X k → k < w.heap.size) (hn : PV kRow X w vn next) (ht : PV kInt X w vt tags)
    (hrow : ∀ i, i < next.length → (next.getD i []).length = 256) :
    Calls Tryd.prog 48 #[.agg #[vn, vt]] w fun e w' => ∃ v1 v2, e = .returned (.tuple #[v1, v2]) ∧ PV kInt X w' v1 (classesL next).1 ∧ PV kInt X w' v2 (classesL next).2 ∧ Below w.heap.size w w' := by
  have H1 := Aside0.mk hn
  have H2 := Aside0.mk ht
  have HROW := Aside0.mk hrow
  have mn := hn.max
  obtain ⟨An, cn, rfl, _, _⟩ := hn.now
  obtain ⟨At, ct, rfl, _, _⟩ := ht.now
  have HS := Aside0.mk ((((Sep.start hX).push_box [.slice An next.length cn, .slice At tags.length ct] 27).push_nil kInt 3).push_nil kInt 3)
  obtain ⟨r, hr⟩ : ∃ r, r = classesL next := ⟨_, rfl⟩
  rw [← hr]
  have HR := Aside0.mk (show clGo next 256 0 ([], []) = r from hr.symm)
  clear hn ht hX hrow hr
  go_enter Tryd.func48, Tryd.ntmps48
  go_wp2_with fail
  obtain ⟨g0, hg0⟩ : ∃ g, g = w.heap.size := ⟨_, rfl⟩
  rw [← hg0] at HS ⊢
  clear hg0
  go_loopg [4, 5, 6] 256 (fun m v4 v5 v6 w' => ∃ (c : Nat) (p : List Int × List Int), v6 = .int .i64 c ∧ Aside0 (c + m = 256) ∧ Aside0 (ClOk c p) ∧ Aside0 (clGo next m c p = r) ∧ Aside0 (Sep X w w' [.box g0 27 [.slice An next.length cn, .slice At tags.length ct], .row kInt 3 v4 p.1, .row kInt 3 v5 p.2]))
  case atStart => exact ⟨0, ([], []), rfl, ⟨by omega⟩, ⟨clok_nil⟩, HR, HS⟩
  case round =>
    clear HS HR
    obtain ⟨c, p, rfl, HJ, HP, HR, HS⟩ := hrel
    obtain ⟨A4, c4, e4⟩ := HS.out.form 1 rfl
    subst e4
    obtain ⟨A5, c5, e5⟩ := HS.out.form 2 rfl
    subst e5
    cases gk with
    | zero =>
      have e1 : decide ((c : Int) < 256) = false := decide_eq_false (by have := HJ.out; omega)
      have e2 : decide (c < 256) = false := decide_eq_false (by have := HJ.out; omega)
      have q0 : p = r := HR.out
      clear HR
      subst q0
      go_wp2_with fail
      go_ret2
      exact ⟨_, _, rfl, HS.out.res_row 1 rfl, HS.out.res_row 2 rfl, HS.out.below⟩
    | succ k1 =>
      have hc : c < 256 := by have := HJ.out; omega
      have e1 : decide ((c : Int) < 256) = true := decide_eq_true (by omega)
      have e2 : decide (c < 256) = true := decide_eq_true hc
      have hc0 : (0 : Int) ≤ (c : Int) := by omega
      have HR1 := HR.out
      rw [clGo, clStep] at HR1
      have hp2 := HP.out.step hc next
      rw [clStep] at hp2
      have ha := colGo_lt next c p.1 0
      obtain ⟨a, hca⟩ : ∃ a, a = colGo next c p.1 0 := ⟨_, rfl⟩
      rw [← hca] at HR1 hp2 ha
      have HP2 := Aside0.mk hp2
      have HR2 := Aside0.mk HR1
      have HA := Aside0.mk ha
      have HCG := Aside0.mk (show colGo next c (p.1.drop 0) 0 = a from hca.symm)
      have hpl : p.1.length ≤ 256 := by have := HP.out.len; omega
      clear HR1 hp2 ha hca HR
      go_wp2_with fail
      clear e1 e2
      go_loopg [7, 8] p.1.length (fun m v7 v8 w' => ∃ (k : Nat) (x : Int), (v8 = .int .i64 k ∧ v7 = .int .i64 x) ∧ Aside0 (k ≤ p.1.length) ∧ Aside0 ((x = -1 ∧ k + m = p.1.length ∧ colGo next c (p.1.drop k) k = a) ∨ (x = a ∧ 0 ≤ a ∧ m = 0)) ∧ Aside0 (Sep X w w' [.box g0 27 [.slice An next.length cn, .slice At tags.length ct], .row kInt 3 (.slice A4 p.1.length c4) p.1, .row kInt 3 (.slice A5 p.2.length c5) p.2]))
      case atStart => exact ⟨0, -1, ⟨by go_num, rfl⟩, ⟨by omega⟩, ⟨.inl ⟨rfl, by omega, HCG.out⟩⟩, HS⟩
      case round =>
        clear HS HCG
        obtain ⟨k, x, ⟨rfl, rfl⟩, HKL, HK, HS⟩ := hrel
        by_cases hx : x < 0 ∧ k < p.1.length
        case neg =>
          have HXA := Aside0.mk (show x = a by
            rcases HK.out with ⟨h1, h2, h3⟩ | ⟨h1, _, _⟩
            · have h4 : ¬ k < p.1.length := fun h => hx ⟨by omega, h⟩
              rw [List.drop_eq_nil_of_le (by omega), colGo] at h3
              omega
            · exact h1)
          have HOL := Aside0.mk (show p.2.length = c from HP.out.of_.1)
          have HXX := Aside0.mk hx
          rcases Nat.lt_or_ge k p.1.length with c1 | c1
          case' inl =>
            have f1 : decide ((k : Int) < (p.1.length : Int)) = true := decide_eq_true (by omega)
            have f2 : decide (k < p.1.length) = true := decide_eq_true c1
            have f3 : decide (x < 0) = false := decide_eq_false (fun h => hx ⟨h, c1⟩)
          case' inr =>
            have f1 : decide ((k : Int) < (p.1.length : Int)) = false := decide_eq_false (by omega)
            have f2 : decide (k < p.1.length) = false := decide_eq_false (by omega)
          all_goals
            have hxa : x = a := HXA.out
            clear HK HXA hx c1
            subst hxa
            rcases Int.lt_or_le x 0 with c2 | c2
            · have d1 : decide (x < 0) = true := decide_eq_true c2
              have HR3 := Aside0.mk (show clGo next k1 (c + 1) (p.1 ++ [(c : Int)], p.2 ++ [(p.1.length : Int)]) = r by have := HR2.out; rwa [if_pos c2] at this)
              have HP3 := Aside0.mk (show ClOk (c + 1) (p.1 ++ [(c : Int)], p.2 ++ [(p.1.length : Int)]) by have := HP2.out; rwa [if_pos c2] at this)
              clear HR2 HP2 c2
              first
                | (exfalso; have := d1.symm.trans f3; cases this; done)
                | go_wp2_with (first
                    | ((with_reducible refine gate_dst (N := 63) rfl ?_); refine slit kInt 3 ?hg (N := 63) ?hd (xs := [(c : Int)]) (inner := [.int .i64 (c : Int)]) ?hr HS.out ?hp (by simp) ?_; (case hd => rfl); (case hg => rfl); (case hr => first | (go_simp; done) | (go_simp; rfl)); (case hp => exact Reps.one (PK.scalar _) (Reps.none _ _)); clear HS; intro v30 w30 hs; have HS := Aside0.mk hs; clear hs)
                    | ((with_reducible refine gate_builtin (b := .append) (xs := #[.tmp 61, .tmp 63]) rfl ?_); at_builtin; refine sgrow kInt 1 rfl (.tmp 61) (.tmp 63) 25 3 (.int .i64 0) 8 rfl Tryd.underlying25 info3' rfl (by decide) (by omega) _ _ p.1 [(c : Int)] rfl rfl HS.out rfl (HS.out.ro 3 rfl) (by rw [List.length_singleton]; omega) ?_; clear HS; intro v31 w31 hs; have HS := Aside0.mk hs; clear hs)
                    | ((with_reducible refine gate_dst (N := 67) rfl ?_); refine slit kInt 3 ?hg (N := 67) ?hd (xs := [(p.1.length : Int)]) (inner := [.int .i64 (p.1.length : Int)]) ?hr HS.out ?hp (by simp) ?_; (case hd => rfl); (case hg => rfl); (case hr => first | (go_simp; done) | (go_simp; rfl)); (case hp => exact Reps.one (PK.scalar _) (Reps.none _ _)); clear HS; intro v32 w32 hs; have HS := Aside0.mk hs; clear hs)
                    | ((with_reducible refine gate_builtin (b := .append) (xs := #[.tmp 65, .tmp 67]) rfl ?_); at_builtin; refine sgrow kInt 2 rfl (.tmp 65) (.tmp 67) 25 3 (.int .i64 0) 8 rfl Tryd.underlying25 info3' rfl (by decide) (by omega) _ _ p.2 [(p.1.length : Int)] rfl rfl HS.out rfl (HS.out.ro 4 rfl) (by have := HOL.out; rw [List.length_singleton]; omega) ?_; clear HS; intro v33 w33 hs; have HS := Aside0.mk hs; clear hs))
                  go_roundg k1
                  case measure => omega
                  case rel => exact ⟨c + 1, (p.1 ++ [(c : Int)], p.2 ++ [(p.1.length : Int)]), by go_num, ⟨by have := HJ.out; omega⟩, HP3, HR3, ⟨HS.out.take 3⟩⟩
            · have d1 : decide (x < 0) = false := decide_eq_false (by omega)
              have HR3 := Aside0.mk (show clGo next k1 (c + 1) (p.1, p.2 ++ [x]) = r by have := HR2.out; rwa [if_neg (by omega)] at this)
              have HP3 := Aside0.mk (show ClOk (c + 1) (p.1, p.2 ++ [x]) by have := HP2.out; rwa [if_neg (by omega)] at this)
              clear HR2 HP2 c2
              go_wp2_with (first
                | ((with_reducible refine gate_dst (N := 67) rfl ?_); refine slit kInt 3 ?hg (N := 67) ?hd (xs := [x]) (inner := [.int .i64 x]) ?hr HS.out ?hp (by simp) ?_; (case hd => rfl); (case hg => rfl); (case hr => first | (go_simp; done) | (go_simp; rfl)); (case hp => exact Reps.one (PK.scalar _) (Reps.none _ _)); clear HS; intro v32 w32 hs; have HS := Aside0.mk hs; clear hs)
                | ((with_reducible refine gate_builtin (b := .append) (xs := #[.tmp 65, .tmp 67]) rfl ?_); at_builtin; refine sgrow kInt 2 rfl (.tmp 65) (.tmp 67) 25 3 (.int .i64 0) 8 rfl Tryd.underlying25 info3' rfl (by decide) (by omega) _ _ p.2 [x] rfl rfl HS.out rfl (HS.out.ro 3 rfl) (by have := HOL.out; rw [List.length_singleton]; omega) ?_; clear HS; intro v33 w33 hs; have HS := Aside0.mk hs; clear hs))
              go_roundg k1
              case measure => omega
              case rel => exact ⟨c + 1, (p.1, p.2 ++ [x]), by go_num, ⟨by have := HJ.out; omega⟩, HP3, HR3, ⟨HS.out.take 3⟩⟩
        case pos =>
          obtain ⟨hx0, hk⟩ := hx
          obtain ⟨rfl, hgk, hcg⟩ : x = -1 ∧ k + gk = p.1.length ∧ colGo next c (p.1.drop k) k = a := by
            rcases HK.out with h | ⟨h1, h2, _⟩
            · exact h
            · omega
          obtain ⟨m2, rfl⟩ : ∃ m2, gk = m2 + 1 := ⟨gk - 1, by omega⟩
          have f1 : decide ((k : Int) < (p.1.length : Int)) = true := decide_eq_true (by omega)
          have f2 : decide (k < p.1.length) = true := decide_eq_true hk
          have hk0 : (0 : Int) ≤ (k : Int) := by omega
          have hk1 : (k : Int) < (p.1.length : Int) := by omega
          have hfx := HP.out.f _ (mem_getD p.1 0 k hk)
          obtain ⟨fn, hfn⟩ : ∃ n : Nat, p.1.getD k 0 = (n : Int) := ⟨(p.1.getD k 0).toNat, by omega⟩
          rw [drop_at p.1 0 k hk, colGo, hfn, Int.toNat_natCast] at hcg
          have HFN := Aside0.mk hfn
          have hfl : fn < 256 := by omega
          obtain ⟨ab, hab⟩ : ∃ b, b = sameCol next c fn := ⟨_, rfl⟩
          rw [← hab] at hcg
          have HAB := Aside0.mk (show (true && (next.drop 0).all (fun row => decide (row.getD c 0 = row.getD fn 0))) = ab from hab.symm)
          have HCG := Aside0.mk hcg
          have HGK := Aside0.mk hgk
          clear HK hcg hgk hab hfn hfx hx0
          go_wp2_with fail
          clear f1 f2
          go_loopg [9, 10] next.length (fun m v9 v10 w' => ∃ (i : Nat) (q : Bool), (v10 = .int .i64 i ∧ v9 = .bool q) ∧ Aside0 (i + m = next.length) ∧ Aside0 ((q && (next.drop i).all (fun row => decide (row.getD c 0 = row.getD fn 0))) = ab) ∧ Aside0 (Sep X w w' [.box g0 27 [.slice An next.length cn, .slice At tags.length ct], .row kInt 3 (.slice A4 p.1.length c4) p.1, .row kInt 3 (.slice A5 p.2.length c5) p.2]))
          case atStart => exact ⟨0, true, ⟨by go_num, rfl⟩, ⟨by omega⟩, HAB, HS⟩
          case round =>
            clear HS HAB
            obtain ⟨i, q, ⟨rfl, rfl⟩, HI, HAB, HS⟩ := hrel
            have y0 := (HS.out.box 0 rfl).cell 0 rfl
            cases gk with
            | zero =>
              have e1 : decide ((i : Int) < (next.length : Int)) = false := decide_eq_false (by have := HI.out; omega)
              have e2 : decide (i < next.length) = false := decide_eq_false (by have := HI.out; omega)
              have q0 : q = ab := by have := HAB.out; rw [List.drop_eq_nil_of_le (by have := HI.out; omega)] at this; simpa using this
              clear HAB
              subst q0
              cases q
              case true =>
                have HCG2 := Aside0.mk (show (k : Int) = a by have := HCG.out; rwa [if_pos rfl] at this)
                go_wp2_with fail
                go_roundg 0
                case measure => omega
                case rel => exact ⟨k + 1, (k : Int), ⟨by go_num, rfl⟩, ⟨by omega⟩, ⟨.inr ⟨HCG2.out, by have := HCG2.out; omega, rfl⟩⟩, HS⟩
              case false =>
                have HCG2 := Aside0.mk (show colGo next c (p.1.drop (k + 1)) (k + 1) = a by have := HCG.out; rwa [if_neg (by decide)] at this)
                go_wp2_with fail
                go_roundg m2
                case measure => omega
                case rel => exact ⟨k + 1, -1, ⟨by go_num, rfl⟩, ⟨by omega⟩, ⟨.inl ⟨rfl, by have := HGK.out; omega, HCG2.out⟩⟩, HS⟩
            | succ i1 =>
              have hi : i < next.length := by have := HI.out; omega
              have e1 : decide ((i : Int) < (next.length : Int)) = true := decide_eq_true (by omega)
              have e2 : decide (i < next.length) = true := decide_eq_true hi
              have hi0 : (0 : Int) ≤ (i : Int) := by omega
              have hi1 : (i : Int) < (next.length : Int) := by omega
              have HAB1 := HAB.out
              rw [drop_at next [] i hi, List.all_cons] at HAB1
              cases q
              case false =>
                have HAB2 := Aside0.mk (show (false && (next.drop (i + 1)).all (fun row => decide (row.getD c 0 = row.getD fn 0))) = ab from HAB1)
                clear HAB1 HAB
                go_wp2_with fail
                go_quiet (fail)
                have HS2 := Aside0.mk (HS.out.drewN nq)
                go_wp2_with fail
                go_roundg i1
                case measure => omega
                case rel => exact ⟨i + 1, false, ⟨by go_num, rfl⟩, ⟨by have := HI.out; omega⟩, HAB2, HS2⟩
              case true =>
                obtain ⟨an, cn', u, en, hu, yn0⟩ := H1.out.row i hi
                cases en
                have hrl := HROW.out i hi
                obtain ⟨ar, cr, eu, yc0⟩ := int_cell hu c (by omega)
                subst eu
                obtain ⟨ar2, cr2, er2, yf0⟩ := int_cell hu fn (by omega)
                cases er2
                have yn := pw_cell_below HS.out.below yn0
                have yc := pw_cell_below HS.out.below yc0
                have yf := pw_cell_below HS.out.below yf0
                obtain ⟨gf, cf, ef, yk, _, _⟩ := HS.out.int 1 rfl k hk
                cases ef
                rw [HFN.out] at yk
                have hcl : (c : Int) < ((next.getD i []).length : Int) := by omega
                have hfl1 : (fn : Int) < ((next.getD i []).length : Int) := by omega
                have hfn0 : (0 : Int) ≤ (fn : Int) := by omega
                generalize next.getD i [] = row at *
                generalize row.getD c 0 = xc at *
                generalize row.getD fn 0 = xf at *
                clear yn0 yc0 yf0 hu HAB
                by_cases c2 : xc = xf
                · have d1 : (xc == xf) = true := beq_iff_eq.mpr c2
                  have HAB2 := Aside0.mk (show (true && (next.drop (i + 1)).all (fun row => decide (row.getD c 0 = row.getD fn 0))) = ab by rw [← HAB1, decide_eq_true c2]; rfl)
                  clear HAB1 c2
                  go_wp2_with fail
                  go_quiet (fail)
                  have HS2 := Aside0.mk (HS.out.drewN nq)
                  go_wp2_with fail
                  go_roundg i1
                  case measure => omega
                  case rel => exact ⟨i + 1, true, ⟨by go_num, rfl⟩, ⟨by have := HI.out; omega⟩, HAB2, HS2⟩
                · have d1 : (xc == xf) = false := beq_eq_false_iff_ne.mpr c2
                  have HAB2 := Aside0.mk (show (false && (next.drop (i + 1)).all (fun row => decide (row.getD c 0 = row.getD fn 0))) = ab by rw [← HAB1, decide_eq_false c2]; rfl)
                  clear HAB1 c2
                  go_wp2_with fail
                  go_quiet (fail)
                  have HS2 := Aside0.mk (HS.out.drewN nq)
                  go_wp2_with fail
                  go_roundg i1
                  case measure => omega
                  case rel => exact ⟨i + 1, false, ⟨by go_num, rfl⟩, ⟨by have := HI.out; omega⟩, HAB2, HS2⟩
end Go.Proofs.YtfbfeimildkigaaDoor.P
namespace Go.Proofs.YtfbfeimildkigaaDoor.P
open Go Go.RowKit Go.Proofs.YtfbfeimildkigaaDoorW.PrintWords Go.Proofs.YtfbfeimildkigaaDoorW.PrintLast Go.Proofs.YtfbfeimildkigaaDoorW.PrintMore Go.Proofs.YtfbfeimildkigaaDoor.PX
set_option linter.unusedVariables false
set_option linter.unusedSimpArgs false
set_option maxRecDepth 100000
theorem sameCol_iff (next : List (List Int)) (a b : Nat) : sameCol next a b = true ↔ ∀ i, i < next.length → (next.getD i []).getD a 0 = (next.getD i []).getD b 0 := by
  unfold sameCol
  rw [List.all_eq_true]
  constructor
  · intro h i hi
    have := h (next.getD i []) (by rw [List.getD_eq_getElem?_getD, List.getElem?_eq_getElem hi]; exact List.getElem_mem hi)
    exact of_decide_eq_true this
  · intro h x hx
    obtain ⟨i, hi, rfl⟩ := List.getElem_of_mem hx
    have := h i hi
    rw [show next.getD i [] = next[i] by rw [List.getD_eq_getElem?_getD, List.getElem?_eq_getElem hi]; rfl] at this
    exact decide_eq_true this
set_option maxHeartbeats 8000000 in
theorem alike14_calls (X : Nat → Prop) (vn : Value) (next : List (List Int)) (a b : Nat) (w : World) (hn : PV kRow X w vn next) (hr : ∀ row ∈ next, a < row.length ∧ b < row.length) :
    Calls Tryd.prog 29 #[vn, .int .i64 a, .int .i64 b] w fun e w' => e = .returned (.bool (sameCol next a b)) ∧ Below w.heap.size w w' := by
  have H1 := Aside0.mk hn
  have HW := Aside0.mk (show ∀ i, i < next.length → a < (next.getD i []).length ∧ b < (next.getD i []).length from fun i hi => hr _ (by rw [List.getD_eq_getElem?_getD, List.getElem?_eq_getElem hi]; exact List.getElem_mem hi))
  have m1 := hn.max
  obtain ⟨An, cn, rfl, _, _⟩ := hn.now
  have HQ := Aside0.mk (sameCol_iff next a b)
  generalize sameCol next a b = q at *
  clear hn hr
  have no : (¬ ∀ i, i < next.length → (next.getD i []).getD a 0 = (next.getD i []).getD b 0) → q = false := fun h => by
    cases hqq : q
    · rfl
    · exact absurd (HQ.out.1 hqq) h
  have HNO := Aside0.mk no
  clear no
  go_enter Tryd.func29, Tryd.ntmps29
  go_wp2_with fail
  go_loopg [7] next.length (fun m v7 w' => ∃ (i : Nat), v7 = .int .i64 i ∧ Aside0 (i + m = next.length) ∧ Aside0 (∀ i', i' < i → (next.getD i' []).getD a 0 = (next.getD i' []).getD b 0) ∧ Aside0 (Below w.heap.size w w'))
  case atStart => exact ⟨0, rfl, ⟨by omega⟩, ⟨fun i' h => by omega⟩, ⟨Below.refl _ _⟩⟩
  case round =>
    obtain ⟨i, rfl, HJ, HI, HB⟩ := hrel
    cases gk with
    | zero =>
      have e1 : decide ((i : Int) < (next.length : Int)) = false := decide_eq_false (by have := HJ.out; omega)
      have e2 : decide (i < next.length) = false := decide_eq_false (by have := HJ.out; omega)
      have q0 : q = true := HQ.out.2 (fun i' h => HI.out i' (by have := HJ.out; omega))
      clear HQ HNO
      subst q0
      go_wp2_with fail
      go_ret
      exact ⟨rfl, HB.out⟩
    | succ k1 =>
      have hi : i < next.length := by have := HJ.out; omega
      have e1 : decide ((i : Int) < (next.length : Int)) = true := decide_eq_true (by omega)
      have e2 : decide (i < next.length) = true := decide_eq_true hi
      have hi0 : (0 : Int) ≤ (i : Int) := by omega
      have hi1 : (i : Int) < (next.length : Int) := by omega
      have ha0 : (0 : Int) ≤ (a : Int) := by omega
      have hb0 : (0 : Int) ≤ (b : Int) := by omega
      obtain ⟨an, cn', u, en, hun, yn0⟩ := H1.out.row i hi
      cases en
      obtain ⟨hal, hbl⟩ := HW.out i hi
      have HNE := Aside0.mk (fun (h : (next.getD i []).getD a 0 ≠ (next.getD i []).getD b 0) => HNO.out (fun hs => h (hs i hi)))
      have HST := Aside0.mk (show (next.getD i []).getD a 0 = (next.getD i []).getD b 0 → ∀ i', i' < i + 1 → (next.getD i' []).getD a 0 = (next.getD i' []).getD b 0 from fun h i' h1 => (Nat.lt_or_ge i' i).elim (HI.out i') (fun h2 => by
        have : i' = i := by omega
        rw [this]; exact h))
      obtain ⟨row, hrow⟩ : ∃ r, r = next.getD i [] := ⟨_, rfl⟩
      rw [← hrow] at hun hal hbl HNE HST
      clear hrow
      have ha1 : (a : Int) < (row.length : Int) := by omega
      have hb1 : (b : Int) < (row.length : Int) := by omega
      obtain ⟨Au, cu, rfl, _, _⟩ := hun.now
      obtain ⟨ar, cr, er, yr0⟩ := int_cell hun a hal
      cases er
      obtain ⟨ar2, cr2, er2, yr2⟩ := int_cell hun b hbl
      cases er2
      have yn := pw_cell_below HB.out yn0
      have yr := pw_cell_below HB.out yr0
      have ys := pw_cell_below HB.out yr2
      clear hun yn0 yr0 yr2 hal hbl
      generalize row.getD a 0 = x at *
      generalize row.getD b 0 = y at *
      by_cases c : x = y
      case' pos =>
        have HT3 := Aside0.mk (HST.out c)
        subst c
      case' neg =>
        have q0 : q = false := HNE.out c
        have d3 : (x == y) = false := beq_eq_false_iff_ne.mpr c
        have d3' : (x != y) = true := bne_iff_ne.mpr c
        clear HQ HNO HNE HST c
        subst q0
      case neg =>
        go_wp2_with fail
        go_quiet (fail)
        have HB2 := Aside0.mk (pw_below_drewN HB.out nq)
        go_wp2_with fail
        go_ret
        exact ⟨rfl, HB2.out⟩
      case pos =>
        go_wp2_with fail
        go_quiet (fail)
        have HB2 := Aside0.mk (pw_below_drewN HB.out nq)
        go_wp2_with fail
        go_roundg k1
        case measure => omega
        case rel => exact ⟨i + 1, by go_num, ⟨by have := HJ.out; omega⟩, HT3, HB2⟩
def manyGo : List Int → Int → Int
  | [], n => n
  | c :: t, n => if c > n then -1 else manyGo t (max n (c + 1))
def many14 (l : List Int) : Int := if manyGo l 0 = -1 ∨ l.length ≠ 256 then 0 else manyGo l 0
set_option maxHeartbeats 8000000 in
theorem many14_calls (X : Nat → Prop) (vl : Value) (l : List Int) (w : World) (hl : PV kU8 X w vl l) (hu : U8s l) :
    Calls Tryd.prog 34 #[vl] w fun e w' => e = .returned (.int .i64 (many14 l)) ∧ Below w.heap.size w w' := by
  have H1 := Aside0.mk hl
  have HU := Aside0.mk hu
  have m1 := hl.max
  obtain ⟨An, cn, rfl, _, _⟩ := hl.now
  obtain ⟨r, hr⟩ : ∃ r, r = many14 l := ⟨_, rfl⟩
  rw [← hr]
  obtain ⟨g, hg⟩ : ∃ g, g = manyGo l 0 := ⟨_, rfl⟩
  have HR := Aside0.mk (show r = if g = -1 ∨ l.length ≠ 256 then 0 else g by rw [hr, many14, ← hg])
  have HG := Aside0.mk (show manyGo (l.drop 0) 0 = g from hg.symm)
  clear hl hu hr hg
  go_enter Tryd.func34, Tryd.ntmps34
  go_wp2_with fail
  go_loopg [3, 4] l.length (fun m v3 v4 w' => ∃ (i : Nat) (n : Int), v3 = .int .i64 n ∧ v4 = .int .i64 i ∧ Aside0 (i + m = l.length) ∧ (0 ≤ n ∧ n ≤ 256) ∧ Aside0 (manyGo (l.drop i) n = g) ∧ Aside0 (Below w.heap.size w w'))
  case atStart => exact ⟨0, 0, rfl, rfl, ⟨by omega⟩, by omega, HG, ⟨Below.refl _ _⟩⟩
  case round =>
    clear HG
    obtain ⟨i, n, rfl, rfl, HJ, ⟨hn0, hn1⟩, HG, HB⟩ := hrel
    cases gk with
    | zero =>
      have e1 : decide ((i : Int) < (l.length : Int)) = false := decide_eq_false (by have := HJ.out; omega)
      have e2 : decide (i < l.length) = false := decide_eq_false (by have := HJ.out; omega)
      have q0 : n = g := by have h := HG.out; rw [List.drop_of_length_le (by have := HJ.out; omega)] at h; exact h
      subst q0
      rcases Nat.decEq l.length 256 with h | h
      case' isTrue =>
        have d1 : ((l.length : Int) == 256) = true := beq_iff_eq.mpr (by omega)
        have d1' : ((l.length : Int) != 256) = false := bne_eq_false_iff_eq.mpr (by omega)
        have q1 : r = n := by rw [HR.out, if_neg (by omega)]
      case' isFalse =>
        have d1 : ((l.length : Int) == 256) = false := beq_eq_false_iff_ne.mpr (by omega)
        have d1' : ((l.length : Int) != 256) = true := bne_iff_ne.mpr (by omega)
        have q1 : r = 0 := by rw [HR.out, if_pos (.inr h)]
      all_goals
        clear HR h
        subst q1
        go_wp2_with fail
        go_ret
        exact ⟨rfl, HB.out⟩
    | succ k1 =>
      have hi : i < l.length := by have := HJ.out; omega
      have e1 : decide ((i : Int) < (l.length : Int)) = true := decide_eq_true (by omega)
      have e2 : decide (i < l.length) = true := decide_eq_true hi
      have hi0 : (0 : Int) ≤ (i : Int) := by omega
      have hi1 : (i : Int) < (l.length : Int) := by omega
      obtain ⟨c, hc, hc2⟩ := u8s_at HU.out i hi
      obtain ⟨as_, cs', es, ys0⟩ := u8_cell H1.out i hi
      cases es
      rw [hc] at ys0
      have ys := pw_cell_below HB.out ys0
      have HR3 := HG.out
      rw [drop_at l 0 i hi, hc, manyGo] at HR3
      clear hc ys0 HG
      rcases Int.lt_or_le n c with h | h
      case inl =>
        have d1 : decide ((c : Int) > n) = true := decide_eq_true h
        have d1' : decide (n < (c : Int)) = true := decide_eq_true h
        rw [if_pos h] at HR3
        have q1 : r = 0 := by rw [HR.out, if_pos (.inl HR3.symm)]
        clear HR HR3
        subst q1
        go_wp2_with fail
        go_ret
        exact ⟨rfl, HB.out⟩
      case inr =>
        have d1 : decide ((c : Int) > n) = false := decide_eq_false (by omega)
        have d1' : decide (n < (c : Int)) = false := decide_eq_false (by omega)
        rw [if_neg (by omega)] at HR3
        have HR4 := Aside0.mk HR3
        clear HR3
        rcases Int.lt_or_le c n with h2 | h2
        case inl =>
          have HM := Aside0.mk (show max n ((c : Int) + 1) = n by omega)
          have d2 : decide (n < (c : Int) + 1) = false := decide_eq_false (by omega)
          have d3 : ¬ (n < (c : Int) + 1) := by omega
          have d4 : (c : Int) + 1 ≤ n := by omega
          have d5 : decide ((c : Int) + 1 ≤ n) = true := decide_eq_true d4
          go_wp2_with fail
          go_roundg k1
          case measure => omega
          case rel => exact ⟨i + 1, n, rfl, by go_num, ⟨by have := HJ.out; omega⟩, by omega, ⟨by rw [← HR4.out, HM.out]⟩, HB⟩
        case inr =>
          have HM := Aside0.mk (show max n ((c : Int) + 1) = (c : Int) + 1 by omega)
          have d2 : decide (n < (c : Int) + 1) = true := decide_eq_true (by omega)
          have d3 : (n < (c : Int) + 1) := by omega
          have d4 : ¬ (c : Int) + 1 ≤ n := by omega
          have d5 : decide ((c : Int) + 1 ≤ n) = false := decide_eq_false d4
          go_wp2_with fail
          go_roundg k1
          case measure => omega
          case rel => exact ⟨i + 1, (c : Int) + 1, rfl, by go_num, ⟨by have := HJ.out; omega⟩, by omega, ⟨by rw [← HR4.out, HM.out]⟩, HB⟩
end Go.Proofs.YtfbfeimildkigaaDoor.P
namespace Go.Proofs.YtfbfeimildkigaaDoor.P
open Go Go.RowKit Go.Proofs.YtfbfeimildkigaaDoorW.PrintWords Go.Proofs.YtfbfeimildkigaaDoor.PX Go.Proofs.YtfbfeimildkigaaDoor.IT
open Go.Maps (Tidy IsMap)
set_option linter.unusedVariables false
def keyL (next : List (List Int)) (a : Nat) : Lit := .string (strOfNums (colText (colAt next a))).data.toList
theorem colAt_iff (next : List (List Int)) (a b : Nat) : colAt next a = colAt next b ↔ sameCol next a b = true := by
  unfold colAt sameCol
  rw [List.map_inj_left, List.all_eq_true]
  exact ⟨fun h x hx => decide_eq_true (h x hx), fun h x hx => of_decide_eq_true (h x hx)⟩
theorem colAt_fits {next : List (List Int)} {a : Nat} (h : ∀ row ∈ next, Fits (row.getD a 0)) : ∀ x ∈ colAt next a, Fits x := by
  intro x hx
  obtain ⟨row, hr, rfl⟩ := List.mem_map.1 hx
  exact h row hr
theorem keyL_iff {next : List (List Int)} {a b : Nat} (ha : ∀ row ∈ next, Fits (row.getD a 0)) (hb : ∀ row ∈ next, Fits (row.getD b 0)) : keyL next a = keyL next b ↔ sameCol next a b = true := by
  rw [← colAt_iff]
  constructor
  · intro h
    unfold keyL at h
    have h1 := Lit.string.inj h
    rw [strOfNums_data, strOfNums_data] at h1
    have h2 := str_inj _ _ (fun x hx => by have := colText_bytes _ (colAt_fits ha) x hx; omega) (fun x hx => by have := colText_bytes _ (colAt_fits hb) x hx; omega) h1
    exact colText_inj _ _ (colAt_fits ha) (colAt_fits hb) h2
  · intro h
    unfold keyL
    rw [h]
theorem keyL_key (next : List (List Int)) (a : Nat) : WideAt.IsKeyLit (keyL next a) := trivial
theorem key_string {P : Program} {k : TypeId} (hk : P.underlying k = some .string) (next : List (List Int)) (a : Nat) (hl : next.length ≤ 1000000) : keyOf P k (.string (strOfNums (colText (colAt next a)))) = some (keyL next a) := by
  refine WideMaps.keyOf_string_mk hk ?_
  rw [strOfNums_size]
  have h1 := colText_len (colAt next a)
  have h2 : (colAt next a).length = next.length := by simp [colAt]
  unfold maxLen
  omega
structure MapD (K : Nat → Lit) (c : Nat) (D : DataW Unit) : Prop where
  tidy : Tidy D
  has : ∀ x, Maps.has D x = true ↔ ∃ a, a < c ∧ K a = x
  le : Maps.size D ≤ c
  eq : Maps.size D = c ↔ ∀ a, a < c → ∀ b, b < a → K a ≠ K b
theorem MapD.start (K : Nat → Lit) : MapD K 0 (.map []) := ⟨Maps.tidy_empty, fun x => ⟨fun h => by simp [Maps.has] at h, fun ⟨a, h, _⟩ => by omega⟩, Nat.le_refl _, ⟨fun _ a h => by omega, fun _ => rfl⟩⟩
theorem has_put {D : DataW Unit} (hD : IsMap D) {k : Lit} (hk : WideAt.IsKeyLit k) (d : DataW Unit) (x : Lit) : Maps.has (D.put k d) x = true ↔ x = k ∨ Maps.has D x = true := by
  by_cases c : x = k
  · subst c
    simp [Maps.has_put_same hD hk]
  · rw [Maps.has_put_other c]
    simp [c]
theorem MapD.step {K : Nat → Lit} {c : Nat} {D : DataW Unit} (h : MapD K c D) (hk : WideAt.IsKeyLit (K c)) (d : DataW Unit) : MapD K (c + 1) (D.put (K c) d) := by
  have hs := Maps.size_put (k := K c) h.tidy d
  refine ⟨h.tidy.put hk d, fun x => ?_, ?_, ?_⟩
  · rw [has_put h.tidy.isMap hk, h.has]
    constructor
    · rintro (rfl | ⟨a, ha, rfl⟩)
      · exact ⟨c, by omega, rfl⟩
      · exact ⟨a, by omega, rfl⟩
    · rintro ⟨a, ha, rfl⟩
      by_cases hc : a = c
      · subst hc; exact .inl rfl
      · exact .inr ⟨a, by omega, rfl⟩
  · rw [hs]
    have := h.le
    split <;> omega
  · rw [hs]
    have hle := h.le
    cases hh : Maps.has D (K c)
    · rw [if_neg (by decide)]
      have hn : ∀ b, b < c → K c ≠ K b := fun b hb he => by
        have := (h.has (K c)).2 ⟨b, hb, he.symm⟩
        rw [hh] at this
        cases this
      constructor
      · intro he a ha b hb
        by_cases hc : a = c
        · subst hc; exact hn b hb
        · exact h.eq.1 (by omega) a (by omega) b hb
      · intro hall
        have := h.eq.2 (fun a ha b hb => hall a (by omega) b hb)
        omega
    · rw [if_pos rfl]
      obtain ⟨b, hb, he⟩ := (h.has (K c)).1 hh
      constructor
      · intro he2; omega
      · intro hall
        exact absurd he.symm (hall c (by omega) b hb)
structure KnownD (K : Nat → Lit) (F : List Int) (D : DataW Unit) : Prop where
  isMap : IsMap D
  has : ∀ x, Maps.has D x = true ↔ ∃ j, j < F.length ∧ K (F.getD j 0).toNat = x
  at_ : ∀ j, j < F.length → ∀ z, D.atKey (K (F.getD j 0).toNat) z = .lit (.int .i64 (j : Int))
theorem KnownD.start (K : Nat → Lit) : KnownD K [] (.map []) := ⟨Maps.isMap_empty, fun x => ⟨fun h => by simp [Maps.has] at h, fun ⟨a, h, _⟩ => by simp at h⟩, fun j h => by simp at h⟩
theorem getD_snoc {F : List Int} {c : Int} (j : Nat) (h : j < F.length) : (F ++ [c]).getD j 0 = F.getD j 0 := by
  rw [List.getD_eq_getElem?_getD, List.getElem?_append_left h, ← List.getD_eq_getElem?_getD]
theorem getD_last (F : List Int) (c : Int) : (F ++ [c]).getD F.length 0 = c := by simp
theorem KnownD.step {K : Nat → Lit} {F : List Int} {c : Nat} {D : DataW Unit} (h : KnownD K F D) (hk : WideAt.IsKeyLit (K c)) (hn : Maps.has D (K c) = false) : KnownD K (F ++ [(c : Int)]) (D.put (K c) (.lit (.int .i64 (F.length : Int)))) := by
  have hne : ∀ j, j < F.length → K (F.getD j 0).toNat ≠ K c := fun j hj he => by
    have := (h.has (K c)).2 ⟨j, hj, he⟩
    rw [hn] at this
    cases this
  refine ⟨h.isMap.put _ _, fun x => ?_, fun j hj z => ?_⟩
  · rw [has_put h.isMap hk, h.has]
    constructor
    · rintro (rfl | ⟨j, hj, rfl⟩)
      · exact ⟨F.length, by simp, by rw [getD_last, Int.toNat_natCast]⟩
      · exact ⟨j, by simp; omega, by rw [getD_snoc j hj]⟩
    · rintro ⟨j, hj, rfl⟩
      by_cases hc : j = F.length
      · subst hc; rw [getD_last, Int.toNat_natCast]; exact .inl rfl
      · have hj' : j < F.length := by simp at hj; omega
        rw [getD_snoc j hj']
        exact .inr ⟨j, hj', rfl⟩
  · by_cases hc : j = F.length
    · subst hc
      rw [getD_last, Int.toNat_natCast]
      exact Maps.atKey_put_same h.isMap hk _ _
    · have hj' : j < F.length := by simp at hj; omega
      rw [getD_snoc j hj', Maps.atKey_put_other (hne j hj')]
      exact h.at_ j hj' z
theorem KnownD.col {next : List (List Int)} {F : List Int} {c : Nat} {D : DataW Unit} (h : KnownD (keyL next) F D) (hf : ∀ a, a < 256 → ∀ row ∈ next, Fits (row.getD a 0)) (hF : ∀ x ∈ F, 0 ≤ x ∧ x < 256) (hc : c < 256) :
    ∀ (l : List Int) (k : Nat), k + l.length = F.length → F.drop k = l → (∀ j, j < k → keyL next (F.getD j 0).toNat ≠ keyL next c) →
      (colGo next c l k = -1 ∧ Maps.has D (keyL next c) = false) ∨ (0 ≤ colGo next c l k ∧ Maps.has D (keyL next c) = true ∧ ∀ z, D.atKey (keyL next c) z = .lit (.int .i64 (colGo next c l k)))
  | [], k, hk, hd, hn => by
    left
    refine ⟨rfl, ?_⟩
    cases hh : Maps.has D (keyL next c)
    · rfl
    · obtain ⟨j, hj, he⟩ := (h.has _).1 hh
      exact absurd he (hn j (by simp at hk; omega))
  | x :: t, k, hk, hd, hn => by
    have hkl : k < F.length := by simp at hk; omega
    have hx : F.getD k 0 = x := by
      have : F.drop k = F.getD k 0 :: F.drop (k + 1) := by
        rw [List.getD_eq_getElem?_getD, List.getElem?_eq_getElem hkl]; exact List.drop_eq_getElem_cons hkl
      rw [hd] at this
      exact (List.cons.inj this).1.symm
    have hxr := hF x (by rw [← hx, List.getD_eq_getElem?_getD, List.getElem?_eq_getElem hkl]; exact List.getElem_mem hkl)
    rw [colGo]
    cases hsc : sameCol next c x.toNat
    · rw [if_neg (by decide)]
      refine KnownD.col h hf hF hc t (k + 1) (by simp at hk; omega) (by rw [← List.drop_drop, hd]; rfl) (fun j hj => ?_)
      by_cases hjk : j = k
      · subst hjk
        rw [hx]
        intro he
        have := (keyL_iff (hf c hc) (hf x.toNat (by omega))).1 he.symm
        rw [hsc] at this
        cases this
      · exact hn j (by omega)
    · rw [if_pos rfl]
      right
      have he : keyL next x.toNat = keyL next c := ((keyL_iff (hf c hc) (hf x.toNat (by omega))).2 hsc).symm
      refine ⟨by omega, (h.has _).2 ⟨k, hkl, by rw [hx]; exact he⟩, fun z => ?_⟩
      rw [← he, ← hx]
      exact h.at_ k hkl z
end Go.Proofs.YtfbfeimildkigaaDoor.P
namespace Go.Proofs.YtfbfeimildkigaaDoor.PX
open Go Go.RowKit Go.Proofs.YtfbfeimildkigaaDoorW.PrintWords
theorem Sep.perm {X : Nat → Prop} {w0 w : World} {L L' : List Item} (h : Sep X w0 w L) (hp : L.Perm L') : Sep X w0 w L' := by
  refine ⟨fun a ha => Item.ok_step (h.ok a (hp.mem_iff.2 ha)) ?_ (fun k hk => .inr ⟨a, ha, hk⟩) (Agree.refl _ _) (fun _ _ => rfl), (hp.pairwise_iff (fun {_ _} hne => hne.symm)).1 h.ne, h.old, h.below⟩
  rintro k hk (hx | ⟨c, hc, hcb⟩)
  · exact .inl hx
  · exact .inr ⟨c, hp.mem_iff.2 hc, hcb⟩
theorem Sep.lit' {α : Type} {X : Nat → Prop} {w0 w : World} {L : List Item} {xs : List α} {inner : List Value} (HS : Sep X w0 w L) (b : Nat) (hb : b = w.heap.size) (d : Kd α) (e : Nat) (hrep : Reps (PK d (Ys X L) w) d.sz xs inner) (hm : xs.length ≤ 9223372036854775807) :
    Sep X w0 (w.alloc (.cells inner.toArray e)) (L ++ [.row d e (.slice (some ⟨b, 0, none⟩) xs.length xs.length) xs]) := by
  subst hb
  exact HS.lit d e hrep hm
section
variable {α : Type _} {L M : List α} {x y z : α}
theorem perm_xzy (h : L ++ [x, y, z] = M) : (L ++ [x] ++ [z] ++ [y]).Perm M := by
  subst h
  simp only [List.append_assoc, List.singleton_append]
  exact (List.Perm.cons _ (List.Perm.swap _ _ _)).append_left L
theorem perm_yxz (h : L ++ [x, y, z] = M) : (L ++ [y] ++ [x] ++ [z]).Perm M := by
  subst h
  simp only [List.append_assoc, List.singleton_append]
  exact (List.Perm.swap _ _ _).append_left L
theorem perm_yzx (h : L ++ [x, y, z] = M) : (L ++ [y] ++ [z] ++ [x]).Perm M := by
  subst h
  simp only [List.append_assoc, List.singleton_append]
  exact ((List.Perm.cons _ (List.Perm.swap _ _ _)).trans (List.Perm.swap _ _ _)).append_left L
theorem perm_zxy (h : L ++ [x, y, z] = M) : (L ++ [z] ++ [x] ++ [y]).Perm M := by
  subst h
  simp only [List.append_assoc, List.singleton_append]
  exact ((List.Perm.swap _ _ _).trans (List.Perm.cons _ (List.Perm.swap _ _ _))).append_left L
theorem perm_zyx (h : L ++ [x, y, z] = M) : (L ++ [z] ++ [y] ++ [x]).Perm M := by
  subst h
  simp only [List.append_assoc, List.singleton_append]
  exact (((List.Perm.cons _ (List.Perm.swap _ _ _)).trans (List.Perm.swap _ _ _)).trans (List.Perm.cons _ (List.Perm.swap _ _ _))).append_left L
end
end Go.Proofs.YtfbfeimildkigaaDoor.PX
namespace Go.Proofs.YtfbfeimildkigaaDoor.P
open Go Go.RowKit Go.Proofs.YtfbfeimildkigaaDoorW.PrintWords Go.Proofs.YtfbfeimildkigaaDoorW.PrintLast Go.Proofs.YtfbfeimildkigaaDoorW.PrintMore Go.Proofs.YtfbfeimildkigaaDoor.PX
set_option linter.unusedVariables false
set_option linter.unusedSimpArgs false
set_option maxRecDepth 100000
def z256 : List Value := (List.replicate 256 (0 : Int)).map (fun x => Value.int .u8 x)
theorem make256 (W : World) : (Instr.makeSlice 29 (.int .i64 256) (.int .i64 256)).run Tryd.prog W = .ok (.slice (some ⟨W.heap.size, 0, none⟩) 256 256) (W.alloc (.cells z256.toArray 5)) := by
  obtain ⟨i0, hi, hzz⟩ := Option.map_eq_some_iff.1 info5
  simp only [Prod.mk.injEq] at hzz
  obtain ⟨hz0, hz1, hz2⟩ := hzz
  have h := run_makeSlice (P := Tryd.prog) W 29 5 i0 (.int .u8 0) Tryd.underlying29 hi hz0 .i64 .i64 256 256 (by decide) (by decide) (by rw [hz1]; decide) (by rw [hz2]; decide) (by decide)
  have e1 : madeCells (Value.int .u8 0).cells ((256 : Int).toNat * 1) = ((List.replicate 256 (0 : Int)).map (fun x => Value.int .u8 x)).toArray := by
    apply Array.ext'
    rw [show (Value.int .u8 0).cells = #[Value.int .u8 0] from rfl, toList_madeCells_one, List.map_replicate]
    rfl
  rw [h, hz1, e1]
  rfl
set_option maxHeartbeats 8000000 in
theorem clone_calls (X : Nat → Prop) (v : Value) (xs : List Int) (w : World) (hX : ∀ k, X k → k < w.heap.size) (hv : PV kInt X w v xs) (hl : xs.length ≤ 1000000000) :
    Calls Tryd.prog 26 #[v] w fun e w' => ∃ v1, e = .returned v1 ∧ Own kInt 3 (Xp X v1) w' w.heap.size v1 xs ∧ Below w.heap.size w w' := by
  have H1 := Aside0.mk hv
  obtain ⟨A0, c0, rfl, _, hc⟩ := hv.now
  have HS := Aside0.mk (Sep.start hX)
  have q22 : ∀ (w : World) (a : Option Addr) (n c n' c' : Nat), (binOp .eql 25 (.slice a n c) (.slice none n' c')).run Tryd.prog w = .ok (.bool a.isNone) w := fun w a n c n' c' => Lib.run_eql_slice_nil w _ _ a n c n' c' Tryd.underlying25
  clear hv hX
  rcases A0 with _ | ad
  case none =>
    have h0 : xs = [] := by
      rcases Nat.eq_zero_or_pos xs.length with h0 | h0
      · exact List.eq_nil_of_length_eq_zero h0
      · obtain ⟨ad, h, _⟩ := hc.2.2 h0
        cases h
    subst h0
    clear hc
    have hs := HS.out.push_nil kInt 3
    go_enter Tryd.func26, Tryd.ntmps26
    go_wp2_with fail
    go_ret
    exact ⟨_, rfl, hs.res_own 0 rfl, hs.below⟩
  case some =>
    clear hc
    go_enter Tryd.func26, Tryd.ntmps26
    go_wp2_with (first
      | ((with_reducible refine gate_dst (N := 5) rfl ?_); refine slit_row kInt 3 ?hg (N := 5) ?hd (xs := ([] : List Int)) (inner := ([] : List Value)) ?hr HS.out ?hp (by simp) ?_; (case hd => rfl); (case hg => rfl); (case hr => first | (go_simp; done) | (go_simp; rfl)); (case hp => exact Reps.none _ _); clear HS; intro v30 w30 hs; have HS := Aside0.mk hs; clear hs)
      | ((with_reducible refine gate_builtin (b := .append) (xs := #[.tmp 5, .tmp 6]) rfl ?_); at_builtin; refine sgrow kInt 0 rfl (.tmp 5) (.tmp 6) 25 3 (.int .i64 0) 8 rfl Tryd.underlying25 info3' rfl (by decide) (by omega) _ _ ([] : List Int) xs rfl rfl HS.out rfl (HS.out.arg H1.out) (by rw [List.length_nil]; omega) ?_; clear HS; intro v1 w1 hs; have HS := Aside0.mk hs; clear hs))
    go_ret
    exact ⟨_, rfl, HS.out.res_own 0 rfl, HS.out.below⟩
end Go.Proofs.YtfbfeimildkigaaDoor.P
