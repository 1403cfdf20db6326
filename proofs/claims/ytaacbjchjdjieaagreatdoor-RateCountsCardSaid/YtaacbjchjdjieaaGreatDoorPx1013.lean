/- One function of the given program as a plain Lean function, and the proof that the call comes to its answer; written by a program (mp.py). -/
import Derived.Test.YtaacbjchjdjieaaGreatDoorPx0
namespace Go.Proofs.YtaacbjchjdjieaaGreatDoor.P
open Go.RowKit Go.Proofs.YtaacbjchjdjieaaGreatDoorW.PrintWords Go.Proofs.YtaacbjchjdjieaaGreatDoorW.PrintLast Go.Proofs.YtaacbjchjdjieaaGreatDoorW.PrintMore
attribute [local go_sem] max2_int min2_int max_two min_two max_three min_three max_four min_four   -- for this text's walks alone
set_option linter.unusedVariables false
set_option linter.unusedSimpArgs false

/-! ### rate_Counts: function 13 -/
def rate_Counts.step (out : List S32) (n : Int) (t : S26) : List S32 :=
  if 0 ≤ t.f0 ∧ t.f0 < n then out.set t.f0.toNat ⟨wrap64 ((rd_T32 out t.f0).f0 + 1), wrap64 ((rd_T32 out t.f0).f1 + t.f2)⟩ else out
def rate_Counts.go (n : Int) : List S26 → List S32 → List S32
  | [], out => out
  | t :: l, out => rate_Counts.go n l (rate_Counts.step out n t)
theorem rate_Counts.step_len (out : List S32) (n : Int) (t : S26) : (rate_Counts.step out n t).length = out.length := by
  unfold rate_Counts.step; split <;> simp
def rate_Counts.f (l : List S26) (n : Int) : Option (List S32) :=
  if n < 1 ∨ 30 < n then some [] else some (rate_Counts.go n l (List.replicate n.toNat z32))
theorem rate_Counts.drop_at (l : List S26) (j : Nat) (h : j < l.length) : l.drop j = rd_T26 l j :: l.drop (j + 1) := by
  rw [List.drop_eq_getElem_cons h]; simp [rd_T26, List.getD_eq_getElem?_getD, h]
theorem rate_Counts.two {W : World} {e base g n cap : Nat} {ok : Nat → Prop} {xs : List S32} (h : Kd.R k32 e W base ok (.slice (some ⟨g, 0, none⟩) n cap) xs) (q : Nat) (hq : q < n) (a b : Int) :
    Kd.R k32 e ((W.setCell ⟨g, q * 2, none⟩ (.int .i64 a)).setCell ⟨g, q * 2 + 1, none⟩ (.int .i64 b)) base ok (.slice (some ⟨g, 0, none⟩) n cap) (xs.set q ⟨a, b⟩) := by
  obtain ⟨c, h1, h2, h3, h4⟩ := Kd.R_elem h z32 (q : Int) (by omega) (by omega)
  have := (Kd.R_seg (seg := [.int .i64 a, .int .i64 b]) (j := 0) (x' := (⟨a, b⟩ : S32)) (okp := fun k => ok k ∧ k ≠ g) h (q : Int) (by omega) (by omega) h1 h3 (by show 0 + 2 ≤ 2; omega) (by
    have hl : c.length = 2 := h1
    match c, hl with
    | [c0, c1], _ => exact k32_mkM _ _ _ (⟨a, b⟩ : S32)) (fun _ h => h)).1
  simpa [World.setCells, show (k32).sz = 2 from rfl] using this
set_option maxHeartbeats 8000000 in
set_option maxRecDepth 100000 in
theorem rate_Counts.calls (A0 : Option Addr) (c0 : Nat) (l0 : List (S26)) (a1 : Int) (r : List (S32)) (w : World) (hr0 : Kd.C k26 w A0 l0.length l0) (hc0 : l0.length ≤ c0) (h : rate_Counts.f l0 a1 = some r) :
    Calls Tryz.prog 13 #[.slice A0 l0.length c0, .int .i64 a1] w fun e w' => ∃ v0_ : Value, e = .returned (v0_) ∧ Kd.R k32 32 w' w.heap.size (fun _ => True) v0_ r ∧ Below w.heap.size w w' := by
  have HR0 := Aside0.mk hr0
  have hmx : l0.length ≤ 9223372036854775807 := Kd.C_max hr0
  clear hr0 hc0
  unfold rate_Counts.f at h
  by_cases c1 : a1 < 1
  · have d1 : decide (a1 < 1) = true := decide_eq_true c1
    rw [if_pos (Or.inl c1)] at h
    obtain rfl := Option.some.inj h
    clear h c1
    go_enter Tryz.func13, Tryz.ntmps13
    go_wp2
    go_ret
    exact ⟨_, rfl, Kd.R_nil _ _ _ _ _, Below.refl _ _⟩
  · have d1 : decide (a1 < 1) = false := decide_eq_false c1
    by_cases c2 : 30 < a1
    · have d2 : decide (a1 > 30) = true := decide_eq_true c2
      rw [if_pos (Or.inr c2)] at h
      obtain rfl := Option.some.inj h
      clear h c1 c2
      go_enter Tryz.func13, Tryz.ntmps13
      go_wp2
      go_ret
      exact ⟨_, rfl, Kd.R_nil _ _ _ _ _, Below.refl _ _⟩
    · have d2 : decide (a1 > 30) = false := decide_eq_false c2
      rw [if_neg (by omega)] at h
      have H := Aside0.mk (Option.some.inj h)
      have HN := Aside0.mk (show 1 ≤ a1 ∧ a1 ≤ 30 by omega)
      have g0 : decide (0 ≤ a1) = true := decide_eq_true (by omega)
      clear h c1 c2
      go_enter Tryz.func13, Tryz.ntmps13
      go_wp2_with (first | ((with_reducible refine gate_dst (N := 16) rfl ?_); refine Kd.R_make k32 _ 32 rfl (N := 16) rfl 28 _ _ rfl a1 rfl rfl Tryz.underlying28 (.agg #[(.int .i64 0), (.int .i64 0)]) 16 info32 rfl (by decide) (by omega) z32 (ok := fun _ => True) (okp := fun _ => True) (k32_mkM _ _ _ z32 ) (fun _ hk => hk) trivial (by have := HN.out; omega) (by have := HN.out; omega) (Below.refl _ _) (Nat.le_refl _) ?_; intro v301 w8 ho9 hb hg_ hnew_; clear hg_ hnew_; have HO := Aside0.mk ho9; have HB := Aside0.mk hb; clear hb ho9))
      have hlr : (List.replicate a1.toNat z32).length = a1.toNat := List.length_replicate
      obtain ⟨g, cap, ev, hge, hlt, _⟩ := Kd.R_form HO.out (by rw [hlr]; have := HN.out; omega)
      rw [hlr] at ev
      subst ev
      have HGE := Aside0.mk hge
      clear hge hlt d1 d2 g0
      go_loopg [19] l0.length (fun m v19 w' => ∃ (j : Nat) (out : List S32), v19 = .int .i64 j ∧ Aside0 (j + m = l0.length) ∧ Aside0 (out.length = a1.toNat) ∧ Aside0 (rate_Counts.go a1 (l0.drop j) out = r) ∧ Aside0 (Kd.R k32 32 w' w.heap.size (fun _ => True) (.slice (some ⟨g, 0, none⟩) a1.toNat cap) out) ∧ Aside0 (Below w.heap.size w w'))
      case atStart => exact ⟨0, _, rfl, ⟨by omega⟩, ⟨hlr⟩, H, HO, HB⟩
      case round =>
        clear H HO HB hlr
        obtain ⟨j, out, rfl, HJ, HL, H, HO, HB⟩ := hrel
        cases gk with
        | zero =>
          have hd : decide ((j : Int) < (l0.length : Int)) = false := decide_eq_false (by have := HJ.out; omega)
          have hd2 : decide (j < l0.length) = false := decide_eq_false (by have := HJ.out; omega)
          have e0 : out = r := by
            have := H.out
            rw [List.drop_eq_nil_of_le (by have := HJ.out; omega)] at this
            exact this
          subst e0
          go_wp2
          go_ret
          exact ⟨_, rfl, HO.out, HB.out⟩
        | succ k1 =>
          have hj : j < l0.length := by have := HJ.out; omega
          have H1 := H.out
          rw [rate_Counts.drop_at l0 j hj, rate_Counts.go] at H1
          obtain ⟨ad, e3, x0, x1, x2, x3, x4, x5⟩ := at_T26 (Kd.C_below HR0.out HB.out) (j : Int) (by omega) (by omega)
          cases e3
          have hsl := rate_Counts.step_len out a1 (rd_T26 l0 (j : Int))
          generalize rd_T26 l0 (j : Int) = t at *
          simp only [Int.toNat_natCast] at x0 x1 x2 x3 x4 x5
          have hu1 := Tryz.underlying26
          by_cases c3 : 0 ≤ t.f0
          · by_cases c4 : t.f0 < a1
            · obtain ⟨q, hq⟩ : ∃ q : Nat, t.f0 = (q : Int) := ⟨t.f0.toNat, by omega⟩
              have d3 : decide ((q : Int) ≥ 0) = true := decide_eq_true (by omega)
              have d4 : decide ((q : Int) < a1) = true := decide_eq_true (by omega)
              have hqa : q < a1.toNat := by omega
              have hst : rate_Counts.step out a1 t = out.set q ⟨wrap64 ((rd_T32 out (q : Int)).f0 + 1), wrap64 ((rd_T32 out (q : Int)).f1 + t.f2)⟩ := by
                unfold rate_Counts.step; rw [if_pos ⟨c3, c4⟩, hq]; rfl
              rw [hst] at H1 hsl
              rw [hq] at x0
              clear hst c3 c4 hq
              have H2 := Aside0.mk H1
              have HS := Aside0.mk hsl
              clear H1 hsl
              obtain ⟨ad2, e4, y0, y1⟩ := at_T32 (Kd.R_reads' HO.out).2.2 (q : Int) (by omega) (by have := HL.out; omega)
              cases e4
              simp only [Int.toNat_natCast, add_plain] at y0 y1
              have n0 := World.new_ne _ _ y0
              have n1 := World.new_ne _ _ y1
              obtain ⟨_, _, _, _, hfz⟩ := Kd.R_elem HO.out z32 (q : Int) (by omega) (by omega)
              have f0 := hfz 0
              have f1 := hfz 1
              simp only [Int.toNat_natCast, show (k32).sz = 2 from rfl, Nat.add_zero] at f0 f1
              clear hfz
              have y2 := fun o => pw_cell_below (below_alloc (Below.refl _ _) o) y0
              have y3 := fun o => pw_cell_below (below_alloc (Below.refl _ _) o) y1
              have f2 := fun o => ((below_alloc (Below.refl _ _) o).frozen (p := ⟨g, q * 2, none⟩) (World.block_lt_of_cell? _ _ y0)).trans f0
              have f3 := fun o => ((below_alloc (Below.refl _ _) o).frozen (p := ⟨g, q * 2 + 1, none⟩) (World.block_lt_of_cell? _ _ y1)).trans f1
              have q0 : (0 : Int) ≤ (q : Int) := by omega
              have q1 : (q : Int) < (a1.toNat : Int) := by omega
              have hu2 := Tryz.underlying32
              go_wp2
              go_region
              go_wp2
              go_roundg k1
              case measure => omega
              case rel => exact ⟨j + 1, _, by go_num, ⟨by have := HJ.out; omega⟩, ⟨HS.out.trans HL.out⟩, H2, ⟨Kd.R_drew (rate_Counts.two (Kd.R_alloc HO.out _) q hqa _ _)⟩, ⟨below_drew (below_set (below_set (below_alloc HB.out _) HGE.out) HGE.out)⟩⟩
            · have d3 : decide (t.f0 ≥ 0) = true := decide_eq_true c3
              have d4 : decide (t.f0 < a1) = false := decide_eq_false c4
              have hst : rate_Counts.step out a1 t = out := by
                unfold rate_Counts.step; rw [if_neg (fun h => c4 h.2)]
              rw [hst] at H1
              have H2 := Aside0.mk H1
              clear H1 hsl hst c3 c4
              go_wp2
              go_roundg k1
              case measure => omega
              case rel => exact ⟨j + 1, _, by go_num, ⟨by have := HJ.out; omega⟩, HL, H2, ⟨Kd.R_alloc HO.out _⟩, ⟨below_alloc HB.out _⟩⟩
          · have d3 : decide (t.f0 ≥ 0) = false := decide_eq_false c3
            have hst : rate_Counts.step out a1 t = out := by
              unfold rate_Counts.step; rw [if_neg (fun h => c3 h.1)]
            rw [hst] at H1
            have H2 := Aside0.mk H1
            clear H1 hsl hst c3
            go_wp2
            go_roundg k1
            case measure => omega
            case rel => exact ⟨j + 1, _, by go_num, ⟨by have := HJ.out; omega⟩, HL, H2, ⟨Kd.R_alloc HO.out _⟩, ⟨below_alloc HB.out _⟩⟩


end Go.Proofs.YtaacbjchjdjieaaGreatDoor.P
