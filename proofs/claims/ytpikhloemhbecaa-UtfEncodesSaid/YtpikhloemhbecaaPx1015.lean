/- One function of the given program as a plain Lean function, and the proof that the call comes to its answer; written by a program (mp.py). -/
import Derived.Test.YtpikhloemhbecaaPx0
import Derived.Test.YtpikhloemhbecaaPx1023
import Derived.Test.YtpikhloemhbecaaPx1024
namespace Go.Proofs.Ytpikhloemhbecaa.P
open Go.RowKit Go.Proofs.YtpikhloemhbecaaW.PrintWords Go.Proofs.YtpikhloemhbecaaW.PrintLast Go.Proofs.YtpikhloemhbecaaW.PrintMore
attribute [local go_sem] max2_int min2_int max_two min_two max_three min_three max_four min_four   -- for this text's walks alone
set_option linter.unusedVariables false
set_option linter.unusedSimpArgs false

/-! ### utf_Decode: function 15 -/
def utf_Decode.go (l0 : List Int) : Nat → Int → Int → Int → Int → Int × Int
  | 0, i, r, _, _ => (r, i)
  | m + 1, i, r, lo, hi =>
    if i = (l0.length : Int) then (-1, i)
    else if lo ≤ rd l0 i ∧ rd l0 i ≤ hi then utf_Decode.go l0 m (i + 1) (Go.bits .or .i64 (wrap64 (r * 64)) (wrap64 (Go.bits .and .u8 (rd l0 i) 63))) 128 191
    else (-1, i)
def utf_Decode.f (l0 : List Int) : Option (Int × Int) :=
  if (l0.length : Int) = 0 then some (-1, 0)
  else (utf_of.f 9 (rd l0 0)).bind fun t => if t.1 = 0 then some (-1, 1) else some (utf_Decode.go l0 (t.1 - 1).toNat 1 (wrap64 t.2.1) t.2.2.1 t.2.2.2)
theorem utf_of.size (k : Nat) (a s b lo hi : Int) (h : utf_of.f k a = some (s, b, lo, hi)) : 0 ≤ s ∧ s ≤ 4 := by
  cases k with
  | zero => 
    unfold utf_of.f utf_of.j0 at h
    repeat' split at h
    all_goals simp at h
    all_goals omega
  | succ k =>
    unfold utf_of.f utf_of.j0 at h
    repeat' split at h
    all_goals simp at h
    all_goals omega
set_option maxHeartbeats 8000000 in
set_option maxRecDepth 100000 in
theorem utf_Decode.calls (A0 : Option Addr) (c0 : Nat) (l0 : List Int) (r1 : Int) (r2 : Int) (w : World) (hr0 : Kd.C (Kd.int .u8) w A0 l0.length l0) (hc0 : l0.length ≤ c0) (h : utf_Decode.f l0 = some (r1, r2)) :
    Calls Try.prog 15 #[.slice A0 l0.length c0] w fun e w' => e = .returned (.tuple #[.int .i64 r1, .int .i64 r2]) ∧ Below w.heap.size w w' := by
  have HR0 := Aside0.mk hr0
  have HC0 := Aside0.mk hc0
  clear hr0 hc0
  have HB := Aside0.mk (Below.refl w.heap.size w)
  unfold utf_Decode.f at h
  by_cases c1 : (l0.length : Int) = 0
  · rw [if_pos c1] at h
    have c1b : ((l0.length : Int) == 0) = true := beq_iff_eq.mpr c1
    clear c1
    simp only [Option.some.injEq, Prod.mk.injEq] at h
    obtain ⟨rfl, rfl⟩ := h
    go_enter Try.func15, Try.ntmps15
    go_wp2
    go_ret2
    exact ⟨rfl, HB.out⟩
  · rw [if_neg c1] at h
    have c1b : ((l0.length : Int) == 0) = false := beq_eq_false_iff_ne.mpr c1
    obtain ⟨⟨s, b, lo, hi⟩, h1, h2⟩ := Option.bind_eq_some_iff.mp h
    clear h
    obtain ⟨hs0, hs4⟩ := utf_of.size _ _ _ _ _ _ h1
    have H1 := Aside0.mk h1
    clear h1
    simp only at h2
    have hlen : 0 < l0.length := by omega
    have HLEN := Aside0.mk hlen
    have p0 : (0:Int) ≤ 0 := by omega
    have q0 : (0:Int) < (l0.length : Int) := by omega
    obtain ⟨ad, ead, hx0⟩ := Kd.at_int HR0.out 0 p0 q0
    cases ead
    rw [show ((0 : Int)).toNat = 0 from rfl] at hx0
    rw [Addr.add_zero'] at hx0
    clear p0 hs0 hs4
    have hu := Try.underlying45
    by_cases c2 : s = 0
    · subst c2
      rw [if_pos rfl] at h2
      simp only [Option.some.injEq, Prod.mk.injEq] at h2
      obtain ⟨rfl, rfl⟩ := h2
      go_enter Try.func15, Try.ntmps15
      go_wp2_with (first
        | (go_at_call 23; refine (utf_of.calls 9 _ _ _ _ _ _ H1.out).mono ?_; rintro e w3 ⟨rfl, hb⟩; have HB2 := Aside0.mk hb; clear hb)
        | ((with_reducible refine gate_dst (N := 4) rfl ?_); refine box_event ?hg (N := 4) ?hd (cs := #[.int .i64 0, .int .u8 0, .int .u8 0, .int .u8 0]) (t := 45) ?hr ?_; (case hd => rfl); (case hg => rfl); (case hr => first | (go_simp; done) | (go_simp; rfl)); intro gb hg w4 hbox hb; have HBX := Aside0.mk hbox; have HB4 := Aside0.mk hb; have GW := Aside0.mk hg; clear hbox hb hg; have hcz0 : w4.cell? ⟨gb, 0, none⟩ = some (.int .i64 0) := (blk_cell HBX.out 0).trans rfl; have hcz1 : w4.cell? ⟨gb, 1, none⟩ = some (.int .u8 0) := (blk_cell HBX.out 1).trans rfl; have hcz2 : w4.cell? ⟨gb, 2, none⟩ = some (.int .u8 0) := (blk_cell HBX.out 2).trans rfl; have hcz3 : w4.cell? ⟨gb, 3, none⟩ = some (.int .u8 0) := (blk_cell HBX.out 3).trans rfl; have hfz0 := blk_frozen HBX.out 0; have hfz1 := blk_frozen HBX.out 1; have hfz2 := blk_frozen HBX.out 2; have hfz3 := blk_frozen HBX.out 3))
      go_ret2
      have hge : w.heap.size ≤ gb := by rw [GW.out]; exact HB2.out.size
      exact ⟨rfl, below_set (below_set (below_set (below_set (below_step HB2.out HB4.out) hge) hge) hge) hge⟩
    · rw [if_neg c2] at h2
      have c2b : (s == 0) = false := beq_eq_false_iff_ne.mpr c2
      have hs : 1 ≤ s ∧ s ≤ 4 := by have := utf_of.size _ _ _ _ _ _ H1.out; omega
      obtain ⟨hs1, hs4⟩ := hs
      have H2 := Aside0.mk (Option.some.inj h2)
      clear h2 c2
      go_enter Try.func15, Try.ntmps15
      go_wp2_with (first
        | (go_at_call 23; refine (utf_of.calls 9 _ _ _ _ _ _ H1.out).mono ?_; rintro e w3 ⟨rfl, hb⟩; have HB2 := Aside0.mk hb; clear hb)
        | ((with_reducible refine gate_dst (N := 4) rfl ?_); refine box_event ?hg (N := 4) ?hd (cs := #[.int .i64 0, .int .u8 0, .int .u8 0, .int .u8 0]) (t := 45) ?hr ?_; (case hd => rfl); (case hg => rfl); (case hr => first | (go_simp; done) | (go_simp; rfl)); intro gb hg w4 hbox hb; have HBX := Aside0.mk hbox; have HB4 := Aside0.mk hb; have GW := Aside0.mk hg; clear hbox hb hg; have hcz0 : w4.cell? ⟨gb, 0, none⟩ = some (.int .i64 0) := (blk_cell HBX.out 0).trans rfl; have hcz1 : w4.cell? ⟨gb, 1, none⟩ = some (.int .u8 0) := (blk_cell HBX.out 1).trans rfl; have hcz2 : w4.cell? ⟨gb, 2, none⟩ = some (.int .u8 0) := (blk_cell HBX.out 2).trans rfl; have hcz3 : w4.cell? ⟨gb, 3, none⟩ = some (.int .u8 0) := (blk_cell HBX.out 3).trans rfl; have hfz0 := blk_frozen HBX.out 0; have hfz1 := blk_frozen HBX.out 1; have hfz2 := blk_frozen HBX.out 2; have hfz3 := blk_frozen HBX.out 3))
      have hge : w.heap.size ≤ gb := by rw [GW.out]; exact HB2.out.size
      have HGE := Aside0.mk hge
      have HI := Aside0.mk (show IsS45 w ((((w4.setCell { block := gb, off := 0 } (Value.int IntKind.i64 s)).setCell { block := gb, off := 1 } (Value.int IntKind.u8 b)).setCell { block := gb, off := 2 } (Value.int IntKind.u8 lo)).setCell { block := gb, off := 3 } (Value.int IntKind.u8 hi)) gb s b lo hi from IsS45.set_3 (IsS45.set_2 (IsS45.set_1 (IsS45.set_0 ⟨HBX.out, hge⟩ s) b) lo) hi)
      have HB5 := Aside0.mk (show Below w.heap.size w ((((w4.setCell { block := gb, off := 0 } (Value.int IntKind.i64 s)).setCell { block := gb, off := 1 } (Value.int IntKind.u8 b)).setCell { block := gb, off := 2 } (Value.int IntKind.u8 lo)).setCell { block := gb, off := 3 } (Value.int IntKind.u8 hi)) from below_set (below_set (below_set (below_set (below_step HB2.out HB4.out) hge) hge) hge) hge)
      clear hcz0 hcz1 hcz2 hcz3 hfz0 hfz1 hfz2 hfz3 HBX HB4 HB2 GW hge
      go_loopg [5, 24] (s - 1).toNat (fun m v5 v24 w' => ∃ (j r lo hi : Int), v5 = .int .i64 r ∧ v24 = .int .i64 j ∧ Aside0 (0 ≤ j ∧ j + m = s - 1 ∧ j + 1 ≤ l0.length) ∧ Aside0 (utf_Decode.go l0 m (j + 1) r lo hi = (r1, r2)) ∧ Aside0 (IsS45 w w' gb s b lo hi) ∧ Aside0 (Below w.heap.size w w'))
      case atStart => exact ⟨0, _, lo, hi, rfl, rfl, ⟨by omega, by omega, by omega⟩, H2, HI, HB5⟩
      case round =>
        clear H2 HI HB5
        obtain ⟨j, r, lo, hi, rfl, rfl, HJ, HG, HI, HBq⟩ := hrel
        obtain ⟨HX, _⟩ := HI.out
        have hcz0 := cellS45_0 HX
        clear HX
        cases gk with
        | zero =>
          have hjs : decide (j < s - 1) = false := decide_eq_false (by have := HJ.out; omega)
          have HG1 := HG.out
          simp only [utf_Decode.go, Prod.mk.injEq] at HG1
          obtain ⟨rfl, h3⟩ := HG1
          have HS := Aside0.mk (show s = r2 by have := HJ.out; omega)
          clear h3
          go_wp2
          go_quiet (fail)
          go_wp2
          go_ret2
          exact ⟨by rw [HS.out]; rfl, pw_below_drewN HBq.out _⟩
        | succ k1 =>
          have hj0 : 0 ≤ j := HJ.out.1
          have hjs : decide (j < s - 1) = true := decide_eq_true (by have := HJ.out; omega)
          have hj4 : j < 4 := by have := HJ.out; omega
          have HG1 := HG.out
          rw [utf_Decode.go] at HG1
          by_cases c4 : j + 1 = (l0.length : Int)
          · rw [if_pos c4] at HG1
            have c4b : (j + 1 == (l0.length : Int)) = true := beq_iff_eq.mpr c4
            clear c4
            simp only [Prod.mk.injEq] at HG1
            obtain ⟨rfl, rfl⟩ := HG1
            go_wp2
            go_ret2
            exact ⟨rfl, HBq.out⟩
          · rw [if_neg c4] at HG1
            have c4b : (j + 1 == (l0.length : Int)) = false := beq_eq_false_iff_ne.mpr c4
            have hj5 : j + 1 < (l0.length : Int) := by have := HJ.out; omega
            clear c4
            have pj : 0 ≤ j + 1 := by omega
            obtain ⟨ad2, ead2, hx1⟩ := Kd.at_int (Kd.C_below HR0.out HBq.out) (j + 1) pj hj5
            obtain rfl : ad = ad2 := by injection ead2
            clear ead2
            replace pj := eq_true pj
            replace hj5 := eq_true hj5
            by_cases c5 : lo ≤ rd l0 (j + 1) ∧ rd l0 (j + 1) ≤ hi
            · rw [if_pos c5] at HG1
              have HM : utf_lead_may.f s b lo hi (rd l0 (j + 1)) = some (true, s, b, 128, 191) := by
                unfold utf_lead_may.f; rw [if_pos c5.1, decide_eq_true c5.2]
              have HM2 := Aside0.mk HM
              have HG2 := Aside0.mk HG1
              clear HM HG1 c5
              go_wp2_with (go_at_call 24; refine (utf_lead_may.calls gb s b lo hi _ _ _ _ _ _ w _ HI.out HBq.out HM2.out).mono ?_; rintro e w3 ⟨rfl, hi2, hb2, hk2⟩; have HI2 := Aside0.mk hi2; have HB2 := Aside0.mk hb2; clear hi2 hb2 hk2; obtain ⟨ad3, ead3, hx2⟩ := Kd.at_int (Kd.C_below HR0.out HB2.out) (j + 1) (of_eq_true pj) (of_eq_true hj5); obtain rfl : ad = ad3 := (by injection ead3); clear ead3)
              go_roundg k1
              case measure => omega
              case rel => exact ⟨j + 1, _, 128, 191, rfl, rfl, ⟨by omega, by have := HJ.out; omega, by have := of_eq_true hj5; omega⟩, HG2, HI2, HB2⟩
            · rw [if_neg c5] at HG1
              simp only [Prod.mk.injEq] at HG1
              obtain ⟨rfl, rfl⟩ := HG1
              have HM : utf_lead_may.f s b lo hi (rd l0 (j + 1)) = some (false, s, b, 128, 191) := by
                unfold utf_lead_may.f; split
                · rw [decide_eq_false (by omega)]
                · rfl
              have HM2 := Aside0.mk HM
              clear HM c5
              go_wp2_with (go_at_call 24; refine (utf_lead_may.calls gb s b lo hi _ _ _ _ _ _ w _ HI.out HBq.out HM2.out).mono ?_; rintro e w3 ⟨rfl, hi2, hb2, hk2⟩; have HB2 := Aside0.mk hb2; clear hi2 hb2 hk2)
              go_ret2
              exact ⟨rfl, HB2.out⟩


end Go.Proofs.Ytpikhloemhbecaa.P
