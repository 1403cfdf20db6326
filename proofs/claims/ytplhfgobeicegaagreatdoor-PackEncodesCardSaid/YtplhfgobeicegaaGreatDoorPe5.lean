/- Part 5 of the proof: S03a, S01b, S02, S10. -/
import Derived.Test.YtplhfgobeicegaaGreatDoorPe4
namespace Go.Proofs.YtplhfgobeicegaaGreatDoor.P
open Go Go.RowKit Go.Proofs.YtplhfgobeicegaaGreatDoorW.PrintWords Go.Proofs.YtplhfgobeicegaaGreatDoorW.PrintLast Go.Proofs.YtplhfgobeicegaaGreatDoorW.PrintMore Go.Proofs.YtplhfgobeicegaaGreatDoor.PX
set_option linter.unusedVariables false
set_option linter.unusedSimpArgs false
set_option maxRecDepth 100000
abbrev kU8 : Kd Int := Kd.int .u8
def encL (a : Int) : List Int :=
 if a < 128 then [a] else if a < 2048 then [192 + a / 64, 128 + a % 64]
 else if a < 65536 then [224 + a / 4096, 128 + a / 64 % 64, 128 + a % 64]
 else [240 + a / 262144, 128 + a / 4096 % 64, 128 + a / 64 % 64, 128 + a % 64]
theorem reps_int (X : Nat → Prop) (w : World) (k : IntKind) : ∀ xs : List Int, Reps (PK (Kd.int k) X w) 1 xs (xs.map (fun x => .int k x)) := fun xs => by
 refine ⟨by simp, fun j p hj => ?_⟩
 obtain ⟨hl, hp⟩ := List.getElem?_eq_some_iff.1 hj
 have hl' : j < (xs.map (fun x => Value.int k x)).length := by rw [List.length_map]; exact hl
 rw [Nat.mul_one, List.drop_eq_getElem_cons hl']
 simp only [List.take_succ_cons, List.take_zero, List.getElem_map, hp]
 exact PK.scalar p
set_option maxHeartbeats 8000000 in
theorem enc_0 (X : Nat → Prop) (a : Int) (w : World) (hX : ∀ k, X k → k < w.heap.size) (h : 0 ≤ a) (h1 : a < 128) :
  Calls Tryz.prog 94 #[.int .i64 a] w fun e w' => ∃ v, e = .returned v ∧ PV kU8 X w' v [a] ∧ Below w.heap.size w w' := by
 have HS := aM (Sep.start hX)
 clear hX
 go_enter Tryz.func94, Tryz.ntmps94
 go_wp2_with (first
  | ((with_reducible refine gate_dst (N := 21) rfl ?_); refine slit kU8 5 ?hg (N := 21) ?hd (xs := ([a] : List Int)) (inner := [.int .u8 (a)]) ?hr HS.out ?hp (by simp) ?_; (case hd => rfl); (case hg => rfl); (case hr => first | (go_simp; done) | (go_simp; rfl)); (case hp => exact (show Reps (PK kU8 (Ys X []) _) 1 [a] [.int .u8 (a)] from by exact reps_int _ _ _ [a])); clear HS; intro v7 w7 hs; have HS := aM hs; clear hs))
 go_ret
 exact ⟨_, rfl, HS.out.res 0 rfl, HS.out.below⟩
set_option maxHeartbeats 8000000 in
theorem enc_1 (X : Nat → Prop) (a : Int) (w : World) (hX : ∀ k, X k → k < w.heap.size) (h : 128 ≤ a) (h1 : a < 2048) :
  Calls Tryz.prog 94 #[.int .i64 a] w fun e w' => ∃ v, e = .returned v ∧ PV kU8 X w' v [192 + a / 64, 128 + a % 64] ∧ Below w.heap.size w w' := by
 have HS := aM (Sep.start hX)
 clear hX
 go_enter Tryz.func94, Tryz.ntmps94
 go_wp2_with (first
  | ((with_reducible refine gate_dst (N := 32) rfl ?_); refine slit kU8 5 ?hg (N := 32) ?hd (xs := ([192 + a / 64, 128 + a % 64] : List Int)) (inner := [.int .u8 (192 + a / 64), .int .u8 (128 + a % 64)]) ?hr HS.out ?hp (by simp) ?_; (case hd => rfl); (case hg => rfl); (case hr => first | (go_simp; done) | (go_simp; rfl)); (case hp => exact (show Reps (PK kU8 (Ys X []) _) 1 [192 + a / 64, 128 + a % 64] [.int .u8 (192 + a / 64), .int .u8 (128 + a % 64)] from by exact reps_int _ _ _ [192 + a / 64, 128 + a % 64])); clear HS; intro v7 w7 hs; have HS := aM hs; clear hs))
 go_ret
 exact ⟨_, rfl, HS.out.res 0 rfl, HS.out.below⟩
set_option maxHeartbeats 8000000 in
theorem enc_20 (X : Nat → Prop) (a : Int) (w : World) (hX : ∀ k, X k → k < w.heap.size) (h : 2048 ≤ a) (h1 : a < 55296) :
  Calls Tryz.prog 94 #[.int .i64 a] w fun e w' => ∃ v, e = .returned v ∧ PV kU8 X w' v [224 + a / 4096, 128 + a / 64 % 64, 128 + a % 64] ∧ Below w.heap.size w w' := by
 have HS := aM (Sep.start hX)
 clear hX
 go_enter Tryz.func94, Tryz.ntmps94
 go_wp2_with (first
  | ((with_reducible refine gate_dst (N := 48) rfl ?_); refine slit kU8 5 ?hg (N := 48) ?hd (xs := ([224 + a / 4096, 128 + a / 64 % 64, 128 + a % 64] : List Int)) (inner := [.int .u8 (224 + a / 4096), .int .u8 (128 + a / 64 % 64), .int .u8 (128 + a % 64)]) ?hr HS.out ?hp (by simp) ?_; (case hd => rfl); (case hg => rfl); (case hr => first | (go_simp; done) | (go_simp; rfl)); (case hp => exact (show Reps (PK kU8 (Ys X []) _) 1 [224 + a / 4096, 128 + a / 64 % 64, 128 + a % 64] [.int .u8 (224 + a / 4096), .int .u8 (128 + a / 64 % 64), .int .u8 (128 + a % 64)] from by exact reps_int _ _ _ [224 + a / 4096, 128 + a / 64 % 64, 128 + a % 64])); clear HS; intro v7 w7 hs; have HS := aM hs; clear hs))
 go_ret
 exact ⟨_, rfl, HS.out.res 0 rfl, HS.out.below⟩
set_option maxHeartbeats 8000000 in
theorem enc_21 (X : Nat → Prop) (a : Int) (w : World) (hX : ∀ k, X k → k < w.heap.size) (h : 57343 < a) (h1 : a < 65536) :
  Calls Tryz.prog 94 #[.int .i64 a] w fun e w' => ∃ v, e = .returned v ∧ PV kU8 X w' v [224 + a / 4096, 128 + a / 64 % 64, 128 + a % 64] ∧ Below w.heap.size w w' := by
 have HS := aM (Sep.start hX)
 clear hX
 go_enter Tryz.func94, Tryz.ntmps94
 go_wp2_with (first
  | ((with_reducible refine gate_dst (N := 48) rfl ?_); refine slit kU8 5 ?hg (N := 48) ?hd (xs := ([224 + a / 4096, 128 + a / 64 % 64, 128 + a % 64] : List Int)) (inner := [.int .u8 (224 + a / 4096), .int .u8 (128 + a / 64 % 64), .int .u8 (128 + a % 64)]) ?hr HS.out ?hp (by simp) ?_; (case hd => rfl); (case hg => rfl); (case hr => first | (go_simp; done) | (go_simp; rfl)); (case hp => exact (show Reps (PK kU8 (Ys X []) _) 1 [224 + a / 4096, 128 + a / 64 % 64, 128 + a % 64] [.int .u8 (224 + a / 4096), .int .u8 (128 + a / 64 % 64), .int .u8 (128 + a % 64)] from by exact reps_int _ _ _ [224 + a / 4096, 128 + a / 64 % 64, 128 + a % 64])); clear HS; intro v7 w7 hs; have HS := aM hs; clear hs))
 go_ret
 exact ⟨_, rfl, HS.out.res 0 rfl, HS.out.below⟩
set_option maxHeartbeats 8000000 in
theorem enc_3 (X : Nat → Prop) (a : Int) (w : World) (hX : ∀ k, X k → k < w.heap.size) (h : 65536 ≤ a) (h1 : a ≤ 1114111) :
  Calls Tryz.prog 94 #[.int .i64 a] w fun e w' => ∃ v, e = .returned v ∧ PV kU8 X w' v [240 + a / 262144, 128 + a / 4096 % 64, 128 + a / 64 % 64, 128 + a % 64] ∧ Below w.heap.size w w' := by
 have HS := aM (Sep.start hX)
 clear hX
 go_enter Tryz.func94, Tryz.ntmps94
 go_wp2_with (first
  | ((with_reducible refine gate_dst (N := 67) rfl ?_); refine slit kU8 5 ?hg (N := 67) ?hd (xs := ([240 + a / 262144, 128 + a / 4096 % 64, 128 + a / 64 % 64, 128 + a % 64] : List Int)) (inner := [.int .u8 (240 + a / 262144), .int .u8 (128 + a / 4096 % 64), .int .u8 (128 + a / 64 % 64), .int .u8 (128 + a % 64)]) ?hr HS.out ?hp (by simp) ?_; (case hd => rfl); (case hg => rfl); (case hr => first | (go_simp; done) | (go_simp; rfl)); (case hp => exact (show Reps (PK kU8 (Ys X []) _) 1 [240 + a / 262144, 128 + a / 4096 % 64, 128 + a / 64 % 64, 128 + a % 64] [.int .u8 (240 + a / 262144), .int .u8 (128 + a / 4096 % 64), .int .u8 (128 + a / 64 % 64), .int .u8 (128 + a % 64)] from by exact reps_int _ _ _ [240 + a / 262144, 128 + a / 4096 % 64, 128 + a / 64 % 64, 128 + a % 64])); clear HS; intro v7 w7 hs; have HS := aM hs; clear hs))
 go_ret
 exact ⟨_, rfl, HS.out.res 0 rfl, HS.out.below⟩
theorem enc_calls (X : Nat → Prop) (a : Int) (w : World) (hX : ∀ k, X k → k < w.heap.size) (h0 : 0 ≤ a) (h1 : a ≤ 1114111) (h2 : a < 55296 ∨ 57343 < a) :
  Calls Tryz.prog 94 #[.int .i64 a] w fun e w' => ∃ v, e = .returned v ∧ PV kU8 X w' v (encL a) ∧ Below w.heap.size w w' := by
 unfold encL
 by_cases c1 : a < 128
 ·rw [if_pos c1]; exact enc_0 X a w hX h0 c1
 rw [if_neg c1]
 by_cases c2 : a < 2048
 ·rw [if_pos c2]; exact enc_1 X a w hX (by omega) c2
 rw [if_neg c2]
 by_cases c3 : a < 65536
 ·rw [if_pos c3]
  rcases h2 with h2 | h2
  ·exact enc_20 X a w hX (by omega) h2
  ·exact enc_21 X a w hX h2 c3
 ·rw [if_neg c3]; exact enc_3 X a w hX (by omega) h1
end Go.Proofs.YtplhfgobeicegaaGreatDoor.P
namespace Go.Proofs.YtplhfgobeicegaaGreatDoor.P
open Go Go.RowKit Go.Proofs.YtplhfgobeicegaaGreatDoorW.PrintWords Go.Proofs.YtplhfgobeicegaaGreatDoorW.PrintLast Go.Proofs.YtplhfgobeicegaaGreatDoorW.PrintMore Go.Proofs.YtplhfgobeicegaaGreatDoor.PX
attribute [local go_sem] max2_int min2_int max_two min_two
set_option linter.unusedVariables false
set_option linter.unusedSimpArgs false
set_option maxRecDepth 100000
set_option pp.deepTerms true
set_option maxHeartbeats 8000000 in
theorem Make_calls (X : Nat → Prop) (v0 v1 : Value) (a b : List Sp) (n : Int) (w : World) (hX : ∀ k, X k → k < w.heap.size) (h0 : PV kSp X w v0 a) (h1 : PV kSp X w v1 b) (ha : Sm a) (hb : Sm b) (hla : a.length ≤ 10000) (hlb : b.length ≤ 10000) (hn : 0 ≤ n ∧ n ≤ 15) :
    Calls Tryz.prog 76 #[v0, v1, .int .i64 n] w fun e w' => ∃ v, e = .returned v ∧ PV kSp X w' v (makeL a b n) ∧ Below w.heap.size w w' := by
  have H0 := aM h0
  have H1 := aM h1
  have HX := aM hX
  have HLB := aM (show (edgesL b).length ≤ 20002 by have := edges_len b; omega)
  have HLE := aM (show (layAll (edgesL a) (edgesL b)).length ≤ 40004 by have := layAll_len (edgesL b) (edgesL a); have := edges_len a; have := edges_len b; omega)
  have HLA := aM (show (edgesL a).length ≤ 20002 by have := edges_len a; omega)
  have HRG := aM (layAll_range _ _ (edges_range b) (edges_range a))
  have HS := aM (show mkGo a b n (layAll (edgesL a) (edgesL b)) (layAll (edgesL a) (edgesL b)).length 0 [] = makeL a b n from rfl)
  have HE := aM (show layAll (edgesL a) ((edgesL b).drop 0) = layAll (edgesL a) (edgesL b) from rfl)
  have HN := aM hn
  generalize makeL a b n = r at *
  generalize layAll (edgesL a) (edgesL b) = e at *
  obtain ⟨A0, c0, rfl, _, _⟩ := h0.now
  obtain ⟨A1, c1, rfl, _, _⟩ := h1.now
  go_enter Tryz.func76, Tryz.ntmps76
  go_wp2_with fail
  refine (edges_calls X _ a _ hX h0 ha (by omega)).mono ?_
  rintro ee w1 ⟨v7, rfl, hv1, hb1⟩
  have HV1 := aM hv1
  have HB1 := aM hb1
  go_wp2_with fail
  refine (edges_calls X _ b _ (fun k hk => Nat.lt_of_lt_of_le (HX.out k hk) HB1.out.size) (H1.out.below HB1.out) hb (by omega)).mono ?_
  rintro ee w2 ⟨v8, rfl, hv2, hb2⟩
  have HV8 := aM hv2
  have HV7 := aM (HV1.out.below hb2)
  have HB2 := aM (below_step HB1.out hb2)
  clear hv2 hb2 HV1 HB1 hv1 hb1 hX h0 h1 ha hb hla hlb
  obtain ⟨A8, c8, rfl, _, _⟩ := HV8.out.now
  generalize edgesL a = ea at *
  generalize edgesL b = eb at *
  go_wp2_with fail
  go_loopg [7, 9] eb.length (fun m v7 v9 w' => ∃ (i : Nat) (o : List Int), v9 = .int .i64 i ∧ Aside0 (i + m = eb.length) ∧ Aside0 (PV kInt X w' v7 o) ∧ Aside0 (o.length ≤ 20002 + i) ∧ Aside0 (layAll o (eb.drop i) = e) ∧ Aside0 (Below w2.heap.size w2 w'))
  case atStart => exact ⟨0, ea, rfl, ⟨by omega⟩, HV7, ⟨by have := HLA.out; omega⟩, HE, ⟨Below.refl _ _⟩⟩
  case round =>
    clear HE HV7
    obtain ⟨i, o, rfl, HJ, HV, HO, HE, HB⟩ := hrel
    cases gk with
    | succ k1 =>
      have hj : i < eb.length := by have := HJ.out; omega
      have hj2 : i < 30000 := by have := HLB.out; omega
      obtain ⟨ad, c, e', y0⟩ := int_cell (HV8.out.below HB.out) i hj
      cases e'
      have HE1 := HE.out
      rw [drop_at eb 0 i hj, layAll] at HE1
      generalize eb.getD i 0 = x at *
      have HLL := aM (lay_len x o)
      have HE2 := aM HE1
      clear HE1 HE
      go_wp2_with fail
      refine (lay_calls X _ o x _ (fun k hk => Nat.lt_of_lt_of_le (HX.out k hk) (Nat.le_trans HB2.out.size HB.out.size)) HV.out (by have := HO.out; omega)).mono ?_
      rintro ee w4 ⟨v4, rfl, hv, hb⟩
      have HV4 := aM hv
      have HB4 := aM (below_step HB.out hb)
      clear hv hb
      go_wp2_with fail
      go_roundg k1
      case measure => omega
      case rel => exact ⟨i + 1, _, by go_num, ⟨by have := HJ.out; omega⟩, HV4, ⟨by have := HO.out; have := HLL.out; omega⟩, HE2, HB4⟩
    | zero =>
      have hd : decide ((i : Int) < (eb.length : Int)) = false := dF (by have := HJ.out; omega)
      have hd2 : decide (i < eb.length) = false := dF (by have := HJ.out; omega)
      have e0 : o = e := by
        have := HE.out
        rw [List.drop_eq_nil_of_le (by have := HJ.out; omega)] at this
        exact this
      subst e0
      have HB5 := aM (below_step HB2.out HB.out)
      obtain ⟨A7, c7, rfl, _, _⟩ := HV.out.now
      clear HE HO HJ HB HB2
      go_wp2_with fail
      go_loopg [10, 11] o.length (fun m v10 v11 w' => ∃ (i : Nat) (out : List Sp), v11 = .int .i64 i ∧ Aside0 (i + m = o.length) ∧ Aside0 (PV kInt (Xp X v10) w' (.slice A7 o.length c7) o) ∧ Aside0 (Own kSp 124 (Xp X v10) w' w.heap.size v10 out) ∧ Aside0 (out.length ≤ i) ∧ Aside0 (mkGo a b n o m i out = r) ∧ Aside0 (Below w.heap.size w w'))
      case atStart => exact ⟨0, [], rfl, ⟨by omega⟩, ⟨HV.out.to Xp_nil⟩, ⟨Own.nil _ _ _ _ _⟩, ⟨by simp⟩, HS, HB5⟩
      case round =>
        clear HS HV HB5
        obtain ⟨i, out, rfl, HJ, HV, HW, HO, HS, HB⟩ := hrel
        cases gk with
        | zero =>
          have hd : decide ((i : Int) < (o.length : Int)) = false := dF (by have := HJ.out; omega)
          have hd2 : decide (i < o.length) = false := dF (by have := HJ.out; omega)
          have e0 : out = r := HS.out
          subst e0
          go_wp2_with fail
          go_ret
          exact ⟨_, rfl, HW.out.done HX.out, HB.out⟩
        | succ k2 =>
          have hj : i < o.length := by have := HJ.out; omega
          have hj2 : i < 50000 := by have := HLE.out; omega
          obtain ⟨ad, c, e', y0⟩ := int_cell HV.out i hj
          cases e'
          have hx := HRG.out _ (mem_getD o 0 i hj)
          have HS1 := HS.out
          rw [mkGo] at HS1
          obtain ⟨hi, hhi⟩ : ∃ q, q = mkHi o i := ⟨_, rfl⟩
          obtain ⟨g0, hg0⟩ : ∃ q, q = (if i + 1 < o.length then o.getD (i + 1) 0 - 1 else 1114111) := ⟨_, rfl⟩
          have HHI := aM (show hi = (if o.getD i 0 < 55296 then mn g0 55295 else g0) by rw [hhi, hg0]; rfl)
          rw [← hhi] at HS1
          have HG0 := aM hg0
          clear hhi hg0
          generalize o.getD i 0 = x at *
          have HS2 := aM HS1
          clear HS1 HS
          go_upto_if 40 with (fail)
          go_cut [12] (fun v12 wc => v12 = .int .i64 g0 ∧ wc = wr)
          case first =>
            by_cases c : i + 1 < o.length
            · obtain ⟨ad1, c1, e1, y1⟩ := int_cell HV.out (i + 1) c
              cases e1
              rw [add_pos ad (by omega)] at y1
              have hy := HRG.out _ (mem_getD o 0 (i + 1) c)
              have q1 : (i : Int) + 1 < (o.length : Int) := by omega
              have d1 : decide ((i : Int) + 1 < (o.length : Int)) = true := dT q1
              have HG1 := aM (HG0.out.trans (if_pos c))
              generalize o.getD (i + 1) 0 = y at *
              clear c
              go_wp2_with fail
              go_meet
              case rel => exact ⟨by rw [HG1.out], rfl⟩
            · have d1 : decide ((i : Int) + 1 < (o.length : Int)) = false := dF (by omega)
              have q1 : (o.length : Int) ≤ (i : Int) + 1 := by omega
              have HG1 := aM (HG0.out.trans (if_neg c))
              clear c
              go_wp2_with fail
              go_meet
              case rel => exact ⟨by rw [HG1.out], rfl⟩
          case rest =>
            clear HG0
            obtain ⟨rfl, hw⟩ := hcut; obtain rfl := hw.symm
            go_upto_if 51 with (fail)
            go_cut [12] (fun v12 wc => v12 = .int .i64 hi ∧ wc = wr)
            case first =>
              by_cases c : x < 55296
              · have d1 : decide (x < 55296) = true := dT c
                have HG1 := aM (HHI.out.trans (if_pos c))
                go_wp2_with fail
                all_goals
                  go_meet
                  case rel => exact ⟨by first | (rw [HG1.out]; done) | (rw [HG1.out]; rfl) | (rw [HG1.out]; unfold mn; split <;> first | rfl | (exfalso; omega)), rfl⟩
              · have d1 : decide (x < 55296) = false := dF c
                have q1 : 55296 ≤ x := by omega
                have HG1 := aM (HHI.out.trans (if_neg c))
                clear c
                go_wp2_with fail
                all_goals
                  go_meet
                  case rel => exact ⟨by first | (rw [HG1.out]; done) | (rw [HG1.out]; rfl) | (rw [HG1.out]; unfold mn; split <;> first | rfl | (exfalso; omega)), rfl⟩
            case rest =>
              clear HHI
              obtain ⟨rfl, hw⟩ := hcut; obtain rfl := hw.symm
              have HA := aM (H0.out.under HB.out HW.out.base)
              have HBB := aM (H1.out.under HB.out HW.out.base)
              obtain ⟨k1, hk1⟩ : ∃ q : Int, q = (if hasB a x = true then 1 else 0) := ⟨_, rfl⟩
              obtain ⟨kk, hkk⟩ : ∃ q : Int, q = k1 + (if hasB b x = true then 2 else 0) := ⟨_, rfl⟩
              have HKK := aM (show mkK a b x = kk by rw [hkk, hk1]; rfl)
              have hk1r : k1 = 0 ∨ k1 = 1 := by rw [hk1]; split; exact .inr rfl; exact .inl rfl
              have hkkr : kk = 0 ∨ kk = 1 ∨ kk = 2 ∨ kk = 3 := by rw [hkk]; split <;> omega
              rw [HKK.out] at HS2
              have HK1 := aM hk1
              have HK2 := aM hkk
              have HR1 := aM hk1r
              have HRR := aM hkkr
              clear hkk hk1 hk1r hkkr HKK
              go_upto_if 59 with (first | (go_at_call 89; (with_reducible refine (Has_calls _ _ a x _ HA.out).mono ?_); rintro ee w5 ⟨rfl, hw5⟩; obtain rfl := hw5.symm))
              go_cut [13] (fun v13 wc => v13 = .int .i64 k1 ∧ wc = wr)
              case first =>
                cases hc : hasB a x
                all_goals
                  have HG1 := HK1.out
                  rw [hc] at HG1
                  have HG2 := aM HG1
                  clear HG1
                  go_wp2_with fail
                  all_goals
                    go_meet
                    case rel => exact ⟨by rw [HG2.out]; rfl, rfl⟩
              case rest =>
                clear HK1
                obtain ⟨rfl, hw⟩ := hcut
                obtain rfl := hw.symm
                go_upto_if 67 with (first | (go_at_call 89; (with_reducible refine (Has_calls _ _ b x _ HBB.out).mono ?_); rintro ee w5 ⟨rfl, hw5⟩; obtain rfl := hw5.symm))
                go_cut [13] (fun v13 wc => v13 = .int .i64 kk ∧ wc = wr)
                case first =>
                  cases hc : hasB b x
                  all_goals
                    have HG1 := HK2.out
                    rw [hc] at HG1
                    have HG2 := aM HG1
                    clear HG1
                    rcases HR1.out with rfl | rfl
                    all_goals
                      go_wp2_with fail
                      all_goals
                        go_meet
                        case rel => exact ⟨by rw [HG2.out]; rfl, rfl⟩
                case rest =>
                  clear HK2 HR1
                  obtain ⟨rfl, hw⟩ := hcut
                  obtain rfl := hw.symm
                  have HUX := aM (HW.out.under (fun k hk => Nat.lt_of_lt_of_le (HX.out k hk) HB.out.size))
                  obtain ⟨n0, n15⟩ := HN.out
                  obtain ⟨A5, c5, e5, _, _⟩ := HW.out.now
                  subst e5
                  rcases HRR.out with rfl | rfl | rfl | rfl
                  all_goals
                    clear HRR
                    have HS3 := HS2.out
                    first | rw [mkBit0] at HS3 | rw [mkBit1] at HS3 | rw [mkBit2] at HS3 | rw [mkBit3] at HS3
                    rcases bitCase _ (mkGo a b n o k2 (i + 1)) HS3 with ⟨db, HS4⟩ | ⟨db, HS4⟩
                    case' inl =>
                      have HS5 := aM HS4
                      clear HS2 HS3 HS4
                      go_wp2_with fail
                      go_roundg k2
                      case measure => omega
                      case rel => exact ⟨i + 1, out, by go_num, ⟨by have := HJ.out; omega⟩, ⟨HV.out.below (below_alloc (Below.refl _ _) _)⟩, ⟨HW.out.below (below_alloc (Below.refl _ _) _)⟩, ⟨by have := HO.out; omega⟩, HS5, ⟨below_alloc HB.out _⟩⟩
                  all_goals
                    have HS5 := aM HS4
                    clear HS2 HS3 HS4
                    have HOL := aM (mkOut_len out x hi)
                    have y0a := fun o => pw_cell_below (below_alloc (Below.refl _ _) o) y0
                    rcases Nat.eq_zero_or_pos out.length with h0 | h0
                    case' inl =>
                      have HOE := aM (show mkOut out x hi = out ++ [⟨x, hi⟩] by unfold mkOut; rw [if_neg (fun h => by omega)])
                      have e0 : decide ((out.length : Int) > 0) = false := dF (by omega)
                      have e0n : decide (0 < out.length) = false := dF (by omega)
                      have e0m : decide (out.length > 0) = false := dF (by omega)
                      have e1 : (out.length : Int) ≤ 0 := by omega
                      clear h0
                    case' inr =>
                      obtain ⟨g, cg, ev, hge, hlt, yl, fl, _⟩ := own_sp HW.out (out.length - 1) (by omega)
                      cases ev
                      have yl2 := fun o => pw_cell_below (below_alloc (Below.refl _ _) o) yl
                      have fl2 := fun o => ((below_alloc (Below.refl _ _) o).frozen (p := ⟨g, (out.length - 1) * 2 + 1, none⟩) hlt).trans fl
                      have e0 : decide ((out.length : Int) > 0) = true := dT (by omega)
                      have e0n : decide (0 < out.length) = true := dT (by omega)
                      have e0m : decide (out.length > 0) = true := dT (by omega)
                      have e1 : (0 : Int) ≤ (out.length : Int) - 1 := by omega
                      have e2 : (out.length : Int) - 1 < (out.length : Int) := by omega
                      have e2a : (1 : Int) ≤ (out.length : Int) := by omega
                      have e2b : 1 ≤ out.length := by omega
                      have e2c : (0 : Int) < (out.length : Int) := by omega
                      have HGE := aM hge
                      have HP0 := aM h0
                      have HOE : Aside0 (mkOut out x hi = if (out.getD (out.length - 1) z124).f1 = x - 1 then out.set (out.length - 1) ⟨(out.getD (out.length - 1) z124).f0, hi⟩ else out ++ [⟨x, hi⟩]) := ⟨by
                        unfold mkOut
                        by_cases cc : (out.getD (out.length - 1) z124).f1 = x - 1
                        · rw [if_pos ⟨h0, cc⟩, if_pos cc]
                        · rw [if_neg (fun h => cc h.2), if_neg cc]⟩
                      have HSET := aM (fun W (hb : Below wr.heap.size wr W) q => own_sp_set (HW.out.below hb) (out.length - 1) (by omega) q)
                      clear hge hlt yl fl h0
                      generalize (out.getD (out.length - 1) z124).f1 = f1 at *
                      rcases Decidable.em (f1 = x - 1) with cc | cc
                      case' inl =>
                        have e3 : (f1 == x - 1) = true := beq_iff_eq.mpr cc
                        replace HOE := aM (HOE.out.trans (if_pos cc))
                        clear cc
                      case' inr =>
                        have e3 : (f1 == x - 1) = false := bF cc
                        replace HOE := aM (HOE.out.trans (if_neg cc))
                        clear cc
                  all_goals
                    have e7 : IntKind.i64.wrap ((out.length : Int) - 1) = (out.length : Int) - 1 := IntWalk.i64_in _ (by have := HO.out; omega)
                    have e8 : ((out.length : Int) - 1).toNat = out.length - 1 := by omega
                    have e9 : IntKind.i64.wrap (x - 1) = x - 1 := IntWalk.i64_in _ (by omega)
                    go_wp2_with fail
                    go_quiet (fail)
                    clear e7 e8 e9
                    have HBq := aM (fun o => pw_below_drewN (below_alloc (Below.refl wr.heap.size wr) o) nq)
                    have hlen9 : out.length ≤ 50000 := by have := HO.out; omega
                    go_wp2_with (first
                      | ((with_reducible refine gate_dst (N := 118) rfl ?_); refine lit kSp 124 (X := _) ?hg (N := 118) ?hd (xs := [(⟨x, hi⟩ : Sp)]) (inner := [.int .i64 x, .int .i64 hi]) ?hr ?hp (fun k hk => Nat.lt_of_lt_of_le (HUX.out k hk) (HBq.out _).size) (by simp) (below_step HB.out (HBq.out _)) (below_step HB.out (HBq.out _)).size ?_; (case hd => rfl); (case hg => rfl); (case hr => first | (go_simp; done) | (go_simp; rfl)); (case hp => exact sp_rep _ _ x hi); intro v7 w7 hv hb3 hb; have H7 := aM hv; have HW7 := aM ((HW.out.below (HBq.out _)).below hb3); have HV7 := aM ((HV.out.below (HBq.out _)).below hb3); have HB7 := aM hb; clear hv hb3 hb; obtain ⟨A_v7, c_v7, e_v7, _⟩ := H7.out.now; subst e_v7)
                      | ((with_reducible refine gate_builtin (b := .append) (xs := #[.tmp 111, .tmp 118]) rfl ?_); at_builtin; refine grow kSp w.heap.size rfl (.tmp 111) (.tmp 118) 91 124 (.agg #[.int .i64 0, .int .i64 0]) 16 rfl Tryz.underlying91 info124 rfl (by decide) (by omega) _ _ out [(⟨x, hi⟩ : Sp)] rfl rfl HW7.out H7.out HB7.out.size (by simp; omega) HB7.out ?_; intro v8 w8 ho hat hg hb; have HW8 := aM ho; have HV8 := aM (HV7.out.app hat hg); have HB8 := aM hb; clear ho hat hg hb))
                    go_roundg k2
                    case measure => omega
                    case rel =>
                      first
                        | exact ⟨i + 1, mkOut out x hi, by go_num, ⟨by have := HJ.out; omega⟩, HV8, ⟨by rw [HOE.out]; exact HW8.out⟩, ⟨by have := HO.out; have := HOL.out; omega⟩, HS5, HB8⟩
                        | exact ⟨i + 1, mkOut out x hi, by go_num, ⟨by have := HJ.out; omega⟩, ⟨(HV.out.below (HBq.out _)).agree (.setCell _ (.inr rfl) _)⟩, ⟨by rw [HOE.out]; exact HSET.out _ (HBq.out _) hi⟩, ⟨by have := HO.out; have := HOL.out; omega⟩, HS5, ⟨below_set (below_step HB.out (HBq.out _)) HGE.out⟩⟩
end Go.Proofs.YtplhfgobeicegaaGreatDoor.P
namespace Go.Proofs.YtplhfgobeicegaaGreatDoor.P
open Go Go.RowKit Go.Proofs.YtplhfgobeicegaaGreatDoorW.PrintWords Go.Proofs.YtplhfgobeicegaaGreatDoorW.PrintLast Go.Proofs.YtplhfgobeicegaaGreatDoorW.PrintMore Go.Proofs.YtplhfgobeicegaaGreatDoor.PX
set_option linter.unusedVariables false
set_option linter.unusedSimpArgs false
set_option maxRecDepth 100000
theorem Norm_calls (X : Nat → Prop) (v0 : Value) (a : List Sp) (w : World) (hX : ∀ k, X k → k < w.heap.size) (h0 : PV kSp X w v0 a) (ha : Sm a) (hla : a.length ≤ 10000) :
  Calls Tryz.prog 58 #[v0] w fun e w' => ∃ v, e = .returned v ∧ PV kSp X w' v (makeL a [] 2) ∧ Below w.heap.size w w' := by
 go_enter Tryz.func58, Tryz.ntmps58
 go_wp2_with fail
 refine (Make_calls X _ _ a [] 2 _ hX h0 (PV.nil _ _ _) ha (by intro s hs; cases hs) hla (by simp) (by omega)).mono ?_
 rintro e w1 ⟨v, rfl, hv, hb⟩
 have HV := aM hv
 have HB := aM hb
 clear hv hb
 go_wp2_with fail
 go_ret
 exact ⟨_, rfl, HV.out, HB.out⟩
theorem Inter_calls (X : Nat → Prop) (v0 v1 : Value) (a b : List Sp) (w : World) (hX : ∀ k, X k → k < w.heap.size) (h0 : PV kSp X w v0 a) (h1 : PV kSp X w v1 b) (ha : Sm a) (hb : Sm b) (hla : a.length ≤ 10000) (hlb : b.length ≤ 10000) :
  Calls Tryz.prog 59 #[v0, v1] w fun e w' => ∃ v, e = .returned v ∧ PV kSp X w' v (makeL a b 8) ∧ Below w.heap.size w w' := by
 go_enter Tryz.func59, Tryz.ntmps59
 go_wp2_with fail
 refine (Make_calls X _ _ a b 8 _ hX h0 h1 ha hb hla hlb (by omega)).mono ?_
 rintro e w1 ⟨v, rfl, hv, hb⟩
 have HV := aM hv
 have HB := aM hb
 clear hv hb
 go_wp2_with fail
 go_ret
 exact ⟨_, rfl, HV.out, HB.out⟩
theorem Minus_calls (X : Nat → Prop) (v0 v1 : Value) (a b : List Sp) (w : World) (hX : ∀ k, X k → k < w.heap.size) (h0 : PV kSp X w v0 a) (h1 : PV kSp X w v1 b) (ha : Sm a) (hb : Sm b) (hla : a.length ≤ 10000) (hlb : b.length ≤ 10000) :
  Calls Tryz.prog 71 #[v0, v1] w fun e w' => ∃ v, e = .returned v ∧ PV kSp X w' v (makeL a b 2) ∧ Below w.heap.size w w' := by
 go_enter Tryz.func71, Tryz.ntmps71
 go_wp2_with fail
 refine (Make_calls X _ _ a b 2 _ hX h0 h1 ha hb hla hlb (by omega)).mono ?_
 rintro e w1 ⟨v, rfl, hv, hb⟩
 have HV := aM hv
 have HB := aM hb
 clear hv hb
 go_wp2_with fail
 go_ret
 exact ⟨_, rfl, HV.out, HB.out⟩
instance : DecidableEq Sp := fun a b => if h : a.f0 = b.f0 ∧ a.f1 = b.f1 then .isTrue (by cases a; cases b; simp_all) else .isFalse (fun e => h ⟨by rw [e], by rw [e]⟩)
theorem alike_step {α : Type} (a b : List α) (z : α) (i : Nat) (h : a.take i = b.take i) (ha : i < a.length) (hb : i < b.length) (e : a.getD i z = b.getD i z) : a.take (i + 1) = b.take (i + 1) := by
 rw [take_at a z i ha, take_at b z i hb, h, e]
theorem alike_end {α : Type} (a b : List α) (i : Nat) (h : a.take i = b.take i) (ha : a.length ≤ i) (hb : b.length ≤ i) : a = b := by
 rwa [List.take_of_length_le ha, List.take_of_length_le hb] at h
theorem Alike_calls (X : Nat → Prop) (v0 v1 : Value) (a b : List Sp) (w : World) (h0 : PV kSp X w v0 a) (h1 : PV kSp X w v1 b) :
  Calls Tryz.prog 57 #[v0, v1] w fun e w' => e = .returned (.bool (decide (a = b))) ∧ Below w.heap.size w w' := by
 have H0 := aM h0
 have H1 := aM h1
 have hm0 := h0.max
 obtain ⟨A0, c0, rfl, _, _⟩ := h0.now
 obtain ⟨A1, c1, rfl, _, _⟩ := h1.now
 clear h0 h1
 by_cases hl : a.length = b.length
 case neg =>
  have d1 : ((a.length : Int) != (b.length : Int)) = true := bne_iff_ne.mpr (by omega)
  have e0 : decide (a = b) = false := dF (fun h => hl (by rw [h]))
  rw [e0]
  clear hl e0
  go_enter Tryz.func57, Tryz.ntmps57
  go_wp2_with fail
  go_ret
  exact ⟨rfl, Below.refl _ _⟩
 case pos =>
  have d1 : ((a.length : Int) != (b.length : Int)) = false := bne_eq_false_iff_eq.mpr (by omega)
  have HL := aM hl
  obtain ⟨q, hq⟩ : ∃ q, q = decide (a = b) := ⟨_, rfl⟩
  rw [← hq]
  have HQ := aM hq
  clear hl hq
  go_enter Tryz.func57, Tryz.ntmps57
  go_wp2_with fail
  go_loopg [5] a.length (fun m v5 w' => ∃ (i : Nat), v5 = .int .i64 i ∧ Aside0 (i + m = a.length) ∧ Aside0 (a.take i = b.take i) ∧ Aside0 (Below w.heap.size w w'))
  case atStart => exact ⟨0, rfl, ⟨by omega⟩, ⟨rfl⟩, ⟨Below.refl _ _⟩⟩
  case round =>
   obtain ⟨i, rfl, HJ, HT, HB⟩ := hrel
   cases gk with
   | zero =>
    have hd : decide ((i : Int) < (a.length : Int)) = false := dF (by have := HJ.out; omega)
    have hd2 : decide (i < a.length) = false := dF (by have := HJ.out; omega)
    have e0 : q = true := by
     rw [HQ.out]
     exact dT (alike_end a b i HT.out (by have := HJ.out; omega) (by have := HJ.out; have := HL.out; omega))
    subst e0
    go_wp2_with fail
    go_ret
    exact ⟨rfl, HB.out⟩
   | succ k1 =>
    have hj : i < a.length := by have := HJ.out; omega
    have hj2 : i < b.length := by have := HL.out; omega
    obtain ⟨ad, c, e, y0, y1⟩ := sp_cell (H0.out.below HB.out) i hj
    cases e
    obtain ⟨ad2, c2, e2, z0, z1⟩ := sp_cell (H1.out.below HB.out) i hj2
    cases e2
    by_cases c : a.getD i z124 = b.getD i z124
    ·have HT2 := aM (alike_step a b _ i HT.out hj hj2 c)
     rw [← c] at z0 z1
     clear c
     generalize a.getD i z124 = s at *
     go_wp2_with fail
     go_quiet (fail)
     have HB2 := aM (pw_below_drewN HB.out nq)
     go_wp2_with fail
     go_roundg k1
     case measure => omega
     case rel => exact ⟨i + 1, by go_num, ⟨by have := HJ.out; omega⟩, HT2, HB2⟩
    ·have e0 : q = false := by
      rw [HQ.out]
      exact dF (fun h => c (by rw [h]))
     subst e0
     have c3 : ¬ ((a.getD i z124).f0 = (b.getD i z124).f0 ∧ (a.getD i z124).f1 = (b.getD i z124).f1) := fun h => c (by
      generalize a.getD i z124 = s at *
      generalize b.getD i z124 = t at *
      cases s; cases t; simp_all)
     clear c
     generalize a.getD i z124 = s at *
     generalize b.getD i z124 = t at *
     by_cases c4 : s.f0 = t.f0
     case' pos =>
      have c5 : ¬ s.f1 = t.f1 := fun h => c3 ⟨c4, h⟩
      have d5 : (s.f1 == t.f1) = false := bF c5
      rw [← c4] at z0
     case' neg =>
      have d5 : (s.f0 == t.f0) = false := bF c4
     all_goals
      clear c3
      go_wp2_with fail
      go_quiet (fail)
      have HB2 := aM (pw_below_drewN HB.out nq)
      go_wp2_with fail
      go_ret
      exact ⟨rfl, HB2.out⟩
def placeL (c : Int) : Int :=
 if c % 8 = 0 then 55280 + c / 8 % 2080 else if c % 8 = 1 then 1114080 + c / 8 % 32 else if c % 8 = 2 then 2032 + c / 8 % 48 else if c % 8 = 3 then 65520 + c / 8 % 48 else c / 8 % 200
theorem place_calls (c : Int) (w : World) (hc : 0 ≤ c ∧ c < 65536) : Calls Tryz.prog 69 #[.int .u16 c] w fun e w' => e = .returned (.int .i64 (placeL c)) ∧ w' = w := by
 obtain ⟨h1, h2⟩ := hc
 obtain ⟨r, hr⟩ : ∃ r, r = placeL c := ⟨_, rfl⟩
 rw [← hr]
 unfold placeL at hr
 have HP := aM hr
 clear hr
 have hq1 : IntKind.u16.wrap (c.tdiv 8) = c / 8 := by
  have e : c.tdiv 8 = c / 8 := Int.tdiv_eq_ediv_of_nonneg h1
  rw [e]
  have : IntKind.u16.wrap (c / 8) = (c / 8) % 65536 := rfl
  omega
 have hq2 : wrap64 (c / 8) = c / 8 := IntWalk.wrap64_in _ (by omega)
 have hr1 : 0 ≤ c / 8 ∧ c / 8 < 8192 := by omega
 obtain ⟨m, hm⟩ : ∃ m, m = c % 8 := ⟨_, rfl⟩
 have h5 : m = 0 ∨ m = 1 ∨ m = 2 ∨ m = 3 ∨ (m ≠ 0 ∧ m ≠ 1 ∧ m ≠ 2 ∧ m ≠ 3) := by omega
 rw [← hm] at HP
 replace hm : c.tmod 8 = m := by rw [hm]; exact Int.tmod_eq_emod_of_nonneg h1
 generalize c / 8 = q at *
 obtain ⟨r1, r2⟩ := hr1
 clear h1 h2
 rcases id h5 with h | h | h | h | ⟨a0, a1, a2, a3⟩
 case' inl => rw [h] at hm HP; clear h
 case' inr.inl => rw [h] at hm HP; clear h
 case' inr.inr.inl => rw [h] at hm HP; clear h
 case' inr.inr.inr.inl => rw [h] at hm HP; clear h
 case' inr.inr.inr.inr =>
  rw [if_neg a0, if_neg a1, if_neg a2, if_neg a3] at HP
  replace a0 : (m == 0) = false := bF a0
  replace a1 : (m == 1) = false := bF a1
  replace a2 : (m == 2) = false := bF a2
  replace a3 : (m == 3) = false := bF a3
 all_goals
  go_enter Tryz.func69, Tryz.ntmps69
  go_wp2_with fail
  go_ret
  first | exact ⟨by rw [HP.out]; rfl, rfl⟩ | exact ⟨by rw [HP.out]; simp, rfl⟩
theorem intk_cell {k : IntKind} {X : Nat → Prop} {w : World} {v : Value} {xs : List Int} (h : PV (Kd.int k) X w v xs) (j : Nat) (hj : j < xs.length) : ∃ ad c, v = .slice (some ad) xs.length c ∧ w.cell? (ad.add j) = some (.int k (xs.getD j 0)) := by
 obtain ⟨A, c, rfl, _, hC⟩ := h.now
 obtain ⟨ad, e, y⟩ := Kd.at_int hC (j : Int) (by omega) (by omega)
 cases e
 exact ⟨ad, c, rfl, by simpa [rd] using y⟩
def choice (l : List Int) (j : Nat) : Sp := ⟨placeL (l.getD (2 * j) 0), placeL (l.getD (2 * j) 0) + l.getD (2 * j + 1) 0 % 40⟩
def manyC (l : List Int) : Nat := if l.length / 2 ≤ 30 then l.length / 2 else 30
def spansL (l : List Int) : List Sp := (List.range (manyC l)).map (choice l)
theorem place_in (c : Int) (h : 0 ≤ c) : 0 ≤ placeL c ∧ placeL c ≤ 1114111 := by
 unfold placeL
 repeat' split
 all_goals omega
set_option maxHeartbeats 4000000 in
theorem spans_calls (X : Nat → Prop) (v0 : Value) (l : List Int) (w : World) (hX : ∀ k, X k → k < w.heap.size) (h0 : PV (Kd.int .u16) X w v0 l) (hr : ∀ x ∈ l, 0 ≤ x ∧ x < 65536) :
  Calls Tryz.prog 52 #[v0] w fun e w' => ∃ v, e = .returned v ∧ PV kSp X w' v (spansL l) ∧ Below w.heap.size w w' := by
 have H0 := aM h0
 have HX := aM hX
 have HR := aM hr
 have hm0 := h0.max
 obtain ⟨n, hn⟩ : ∃ n, n = manyC l := ⟨_, rfl⟩
 have HS := aM (show spansL l = (List.range n).map (choice l) by rw [hn]; rfl)
 have HN := aM (show n ≤ 30 ∧ 2 * n ≤ l.length ∧ (30 ≤ n ∨ l.length < 2 * n + 2) by rw [hn]; unfold manyC; split <;> omega)
 generalize spansL l = r at *
 obtain ⟨A0, c0, rfl, _, _⟩ := h0.now
 clear h0 hX hr hn
 go_enter Tryz.func52, Tryz.ntmps52
 go_wp2_with fail
 go_loopg [3, 4] n (fun m v3 v4 w' => ∃ (i j : Nat) (out : List Sp), v4 = .int .i64 i ∧ Aside0 (i = 2 * j ∧ j + m = n) ∧ Aside0 (out = (List.range j).map (choice l)) ∧ Aside0 (Own kSp 124 (Xp X v3) w' w.heap.size v3 out) ∧ Aside0 (Below w.heap.size w w'))
 case atStart => exact ⟨0, 0, [], rfl, ⟨by omega⟩, ⟨rfl⟩, ⟨Own.nil _ _ _ _ _⟩, ⟨Below.refl _ _⟩⟩
 case round =>
  obtain ⟨i, j, out, rfl, HJ, HO, HW, HB⟩ := hrel
  obtain ⟨j1, j2⟩ := HJ.out
  obtain ⟨n1, n2, n3⟩ := HN.out
  cases gk with
  | zero =>
   have hin : (i : Int) ≤ 60 := by omega
   have hc : l.length ≤ i + 1 ∨ (i + 1 < l.length ∧ 60 ≤ i) := by omega
   have HF := aM (show out = r by rw [HO.out, HS.out, show j = n by omega])
   clear j1 j2 n1 n2 n3
   rcases hc with h | ⟨h, h1⟩
   case' inl =>
    have d1 : decide ((i : Int) + 1 < (l.length : Int)) = false := dF (by omega)
   case' inr =>
    have d1 : decide ((i : Int) + 1 < (l.length : Int)) = true := dT (by omega)
    have d2 : decide ((i : Int) < 60) = false := dF (by omega)
    have d3 : decide (i < 60) = false := dF (by omega)
   all_goals
    go_wp2_with fail
    go_ret
    exact ⟨_, rfl, by rw [← HF.out]; exact HW.out.done HX.out, HB.out⟩
  | succ k1 =>
   have hin : i < 60 := by omega
   have hj : i < l.length := by omega
   have hj2 : i + 1 < l.length := by omega
   have HV := aM (H0.out.under HB.out HW.out.base)
   obtain ⟨ad, c, e, y0⟩ := intk_cell HV.out i hj
   cases e
   obtain ⟨ad1, c1, e1, y1⟩ := intk_cell HV.out (i + 1) hj2
   cases e1
   rw [add_pos ad (by omega)] at y1
   have HCH := aM (show choice l j = ⟨placeL (l.getD i 0), placeL (l.getD i 0) + l.getD (i + 1) 0 % 40⟩ by unfold choice; rw [← j1])
   have hr0 := HR.out _ (mem_getD l 0 i hj)
   have hr1 := HR.out _ (mem_getD l 0 (i + 1) hj2)
   have hol : out.length = j := by rw [HO.out]; simp
   have HOL := aM (show out.length ≤ 30 by omega)
   have HJ2 := aM (show i + 2 = 2 * (j + 1) ∧ j + 1 + k1 = n by omega)
   have HO2 := aM (show out ++ [choice l j] = (List.range (j + 1)).map (choice l) by rw [HO.out, List.range_succ]; simp)
   rw [HCH.out] at HO2
   clear HCH j1 j2 n1 n2 n3 hol HJ HO
   generalize l.getD i 0 = x at *
   generalize l.getD (i + 1) 0 = y at *
   have d1 : decide ((i : Int) + 1 < (l.length : Int)) = true := dT (by omega)
   have d2 : decide ((i : Int) < 60) = true := dT (by omega)
   have d3 : decide (i < 60) = true := dT hin
   have hp := place_in x hr0.1
   generalize hpe : placeL x = p at *
   obtain ⟨q, hq⟩ : ∃ q, q = y % 40 := ⟨_, rfl⟩
   have hq1 : 0 ≤ q ∧ q < 40 := by omega
   have hqt : y.tmod 40 = q := by rw [hq]; exact Int.tmod_eq_emod_of_nonneg hr1.1
   have hqw : IntKind.u16.wrap q = q := by
    have : IntKind.u16.wrap q = q % 65536 := rfl
    omega
   have hqw2 : wrap64 q = q := IntWalk.wrap64_in _ (by omega)
   have hqw3 : wrap64 (p + q) = p + q := IntWalk.wrap64_in _ (by omega)
   have hqw4 : IntKind.i64.wrap (p + q) = p + q := IntWalk.i64_in _ (by omega)
   rw [← hq] at HO2
   have HR0 := aM hr0
   have HPE := aM hpe
   obtain ⟨q1, q2⟩ := hq1
   obtain ⟨p1, p2⟩ := hp
   have hk3 : (i : Int) + 1 < (l.length : Int) := by omega
   obtain ⟨A5, c5, e5, _, _⟩ := HW.out.now
   subst e5
   clear hr0 hr1 hpe hq
   go_wp2_with (first
    | (go_at_call 69; (with_reducible refine (place_calls x _ HR0.out).mono ?_); rintro ee w5 ⟨rfl, hw5⟩; obtain rfl := hw5.symm; rw [HPE.out])
    | ((with_reducible refine gate_dst (N := 34) rfl ?_); refine lit kSp 124 (X := _) ?hg (N := 34) ?hd (xs := [(⟨p, p + q⟩ : Sp)]) (inner := [.int .i64 p, .int .i64 (p + q)]) ?hr ?hp (HW.out.under (fun k hk => Nat.lt_of_lt_of_le (HX.out k hk) HB.out.size)) (by simp) HB.out HB.out.size ?_; (case hd => rfl); (case hg => rfl); (case hr => first | (go_simp; done) | (go_simp; rfl)); (case hp => exact sp_rep _ _ p (p + q)); intro v7 w7 hv hb3 hb; have H7 := aM hv; have HW7 := aM (HW.out.below hb3); have HB7 := aM hb; clear hv hb3 hb; obtain ⟨A_v7, c_v7, e_v7, _⟩ := H7.out.now; subst e_v7)
    | ((with_reducible refine gate_builtin (b := .append) (xs := #[.tmp 22, .tmp 34]) rfl ?_); at_builtin; refine grow kSp w.heap.size rfl (.tmp 22) (.tmp 34) 91 124 (.agg #[.int .i64 0, .int .i64 0]) 16 rfl Tryz.underlying91 info124 rfl (by decide) (by omega) _ _ out [(⟨p, p + q⟩ : Sp)] rfl rfl HW7.out H7.out HB7.out.size (by have := HOL.out; simp; omega) HB7.out ?_; intro v8 w8 ho hat hg hb; have HW8 := aM ho; have HB8 := aM hb; clear ho hat hg hb))
   go_roundg k1
   case measure => omega
   case rel => exact ⟨i + 2, j + 1, _, by go_num, HJ2, HO2, HW8, HB8⟩
def some10 (l : List (List Sp)) (x : List Sp) : List (List Sp) := if x.length = 0 then l else l ++ [x]
set_option maxHeartbeats 2000000 in
theorem some10_calls (X : Nat → Prop) (v0 v1 : Value) (l0 : List (List Sp)) (l1 : List Sp) (w : World) (hX : ∀ k, X k → k < w.heap.size) (h0 : PV kSps X w v0 l0) (h1 : PV kSp X w v1 l1) (hl : l0.length ≤ 1000000000) :
  Calls Tryz.prog 70 #[v0, v1] w fun e w' => ∃ v, e = .returned v ∧ PV kSps X w' v (some10 l0 l1) ∧ Below w.heap.size w w' := by
 have H0 := aM h0
 have H1 := aM h1
 have HX := aM hX
 obtain ⟨A0, c0, rfl, _, _⟩ := h0.now
 obtain ⟨A1, c1, rfl, _, _⟩ := h1.now
 clear h0 h1 hX
 unfold some10
 by_cases c : l1.length = 0
 ·rw [if_pos c]
  have d1 : ((l1.length : Int) == 0) = true := beq_iff_eq.mpr (by omega)
  clear c
  go_enter Tryz.func70, Tryz.ntmps70
  go_wp2
  go_ret
  exact ⟨_, rfl, H0.out, Below.refl _ _⟩
 ·rw [if_neg c]
  have d1 : ((l1.length : Int) == 0) = false := bF (by omega)
  clear c
  go_enter Tryz.func70, Tryz.ntmps70
  go_wp2_with (first
   | ((with_reducible refine gate_builtin (b := .append) (xs := #[.tmp 10, .tmp 11]) rfl ?_); at_builtin; refine grow kSps w.heap.size rfl (.tmp 10) (.tmp 11) 78 91 (.slice none 0 0) 24 rfl Tryz.underlying78 info91 rfl (by decide) (by omega) _ _ [] l0 rfl rfl (Own.nil _ _ _ _ _) (H0.out.to Xp_nil) (Nat.le_refl _) (by simp; omega) (Below.refl _ _) ?_; intro v1 w1 ho hat hg hb; have HO := aM ho; have H2 := aM ((H1.out.to Xp_nil).app hat hg); have HB := aM hb; clear ho hat hg hb)
   | ((with_reducible refine gate_dst (N := 15) rfl ?_); refine lit kSps 91 (X := Xp X v1) ?hg (N := 15) ?hd (xs := [l1]) (inner := [.slice A1 l1.length c1]) ?hr ?hp (HO.out.under (fun k hk => Nat.lt_of_lt_of_le (HX.out k hk) HB.out.size)) (by simp) HB.out HB.out.size ?_; (case hd => rfl); (case hg => rfl); (case hr => first | (go_simp; done) | (go_simp; rfl)); (case hp => exact Reps.one (PK.slice H2.out) (Reps.none _ _)); intro v3 w3 hv hb3 hb; have H3 := aM hv; have HO3 := aM (HO.out.below hb3); have HB3 := aM hb; clear hv hb3 hb; obtain ⟨A_v3, c_v3, e_v3, _⟩ := H3.out.now; subst e_v3)
   | ((with_reducible refine gate_builtin (b := .append) (xs := #[.tmp 13, .tmp 15]) rfl ?_); at_builtin; refine grow kSps w.heap.size rfl (.tmp 13) (.tmp 15) 78 91 (.slice none 0 0) 24 rfl Tryz.underlying78 info91 rfl (by decide) (by omega) _ _ l0 [l1] rfl rfl HO3.out H3.out HB3.out.size (by simp; omega) HB3.out ?_; intro v4 w4 ho hat hg hb; have HO4 := aM ho; have HB4 := aM hb; clear ho hat hg hb))
  go_ret
  exact ⟨_, rfl, HO4.out.done HX.out, HB4.out⟩
def lo10 (x : List Sp) : Int := (x.getD 0 z124).f0
def ahead (x : List Sp) : List (List Sp) → Nat
 | [] => 0
 | y :: t => if lo10 y < lo10 x then ahead x t + 1 else 0
def ins10 (x : List Sp) (l : List (List Sp)) : List (List Sp) := l.take (ahead x l) ++ [x] ++ l.drop (ahead x l)
def sortGo (out : List (List Sp)) : List (List Sp) → List (List Sp)
 | [] => out
 | x :: t => sortGo (ins10 x out) t
theorem ahead_le (x : List Sp) : ∀ l : List (List Sp), ahead x l ≤ l.length
 | [] => Nat.le_refl _
 | y :: t => by unfold ahead; split <;> simp <;> have := ahead_le x t <;> omega
theorem ahead_lt (x : List Sp) : ∀ (l : List (List Sp)) (k : Nat), k < ahead x l → lo10 (l.getD k []) < lo10 x
 | [], k, h => by simp [ahead] at h
 | y :: t, k, h => by
  unfold ahead at h
  split at h
  ·rename_i c
   cases k with
   | zero => exact c
   | succ k => exact ahead_lt x t k (by omega)
  ·omega
theorem ahead_at (x : List Sp) : ∀ (l : List (List Sp)), ahead x l < l.length → ¬ lo10 (l.getD (ahead x l) []) < lo10 x
 | [], h => by simp at h
 | y :: t, h => by
  unfold ahead at h ⊢
  split
  ·rename_i c
   rw [if_pos c] at h
   exact ahead_at x t (by simpa using h)
  ·rename_i c
   exact c
theorem ins_len (x : List Sp) (l : List (List Sp)) : (ins10 x l).length = l.length + 1 := by
 have := ahead_le x l
 unfold ins10
 simp
 omega
theorem ins_mem (x y : List Sp) (l : List (List Sp)) (h : y ∈ ins10 x l) : y = x ∨ y ∈ l := by
 unfold ins10 at h
 rcases List.mem_append.1 h with h | h
 ·rcases List.mem_append.1 h with h | h
  ·exact .inr (List.mem_of_mem_take h)
  ·exact .inl (by simpa using h)
 ·exact .inr (List.mem_of_mem_drop h)
theorem drop_ats (l : List (List Sp)) (j : Nat) (h : j < l.length) : l.drop j = l.getD j [] :: l.drop (j + 1) := by
 rw [List.drop_eq_getElem_cons h]; simp [List.getD_eq_getElem?_getD, h]
theorem take_ats (l : List (List Sp)) (j : Nat) (h : j < l.length) : l.take (j + 1) = l.take j ++ [l.getD j []] := by
 rw [List.take_succ_eq_append_getElem h]; simp [List.getD_eq_getElem?_getD, h]
theorem mem_at (l : List (List Sp)) (j : Nat) (h : j < l.length) : l.getD j [] ∈ l := by
 simp only [List.getD_eq_getElem?_getD, h, List.getElem?_eq_getElem, Option.getD_some]; exact List.getElem_mem h
theorem first_cell {X : Nat → Prop} {w : World} {u : Value} {x : List Sp} (h : PV kSp X w u x) (hp : x.length ≠ 0) : ∃ ad c, u = .slice (some ad) x.length c ∧ w.cell? ad = some (.int .i64 (lo10 x)) := by
 obtain ⟨A, c, rfl, _, hC⟩ := h.now
 obtain ⟨ad, e, y0, _⟩ := at_T124 hC 0 (by omega) (by omega)
 cases e
 exact ⟨ad, c, rfl, by simpa [Addr.add, rd_T124, lo10] using y0⟩
set_option maxHeartbeats 4000000 in
theorem sorted_calls (X : Nat → Prop) (v0 : Value) (l0 : List (List Sp)) (w : World) (hX : ∀ k, X k → k < w.heap.size) (h0 : PV kSps X w v0 l0) (hne : ∀ x ∈ l0, x.length ≠ 0) (hl : l0.length ≤ 1000000) :
  Calls Tryz.prog 72 #[v0] w fun e w' => ∃ v, e = .returned v ∧ PV kSps X w' v (sortGo [] l0) ∧ Below w.heap.size w w' := by
 have H0 := aM h0
 have HX := aM hX
 have HL := aM hl
 have HNE := aM hne
 have HS := aM (show sortGo [] (l0.drop 0) = sortGo [] l0 from rfl)
 generalize sortGo [] l0 = r at *
 obtain ⟨A0, c0, rfl, _, _⟩ := h0.now
 obtain ⟨i0, hi0, _, hsz0, _⟩ := info_parts info91
 clear h0 hX hl hne
 go_enter Tryz.func72, Tryz.ntmps72
 go_wp2_with fail
 go_loopg [3, 4] l0.length (fun m v3 v4 w' => ∃ (i : Nat) (out : List (List Sp)), v4 = .int .i64 i ∧ Aside0 (i + m = l0.length) ∧ Aside0 (PV kSps X w' v3 out) ∧ Aside0 (out.length = i ∧ ∀ x ∈ out, x.length ≠ 0) ∧ Aside0 (sortGo out (l0.drop i) = r) ∧ Aside0 (Below w.heap.size w w'))
 case atStart => exact ⟨0, [], rfl, ⟨by omega⟩, ⟨PV.nil _ _ _⟩, ⟨rfl, fun x hx => by cases hx⟩, HS, ⟨Below.refl _ _⟩⟩
 case round =>
  clear HS
  obtain ⟨i, out, rfl, HJ, HV, HO, HS, HB⟩ := hrel
  cases gk with
  | zero =>
   have hd : decide ((i : Int) < (l0.length : Int)) = false := dF (by have := HJ.out; omega)
   have hd2 : decide (i < l0.length) = false := dF (by have := HJ.out; omega)
   have e0 : out = r := by
    have := HS.out
    rw [List.drop_eq_nil_of_le (by have := HJ.out; omega)] at this
    exact this
   subst e0
   go_wp2_with fail
   go_ret
   exact ⟨_, rfl, HV.out, HB.out⟩
  | succ k1 =>
   have hj : i < l0.length := by have := HJ.out; omega
   have hj2 : i < 1000000 := by have := HL.out; omega
   have HS1 := HS.out
   rw [drop_ats l0 i hj, sortGo] at HS1
   have HS2 := aM HS1
   have HXN := aM (HNE.out _ (mem_at l0 i hj))
   obtain ⟨ad0, c0', u, e0, hu, hcell⟩ := H0.out.row i hj
   cases e0
   have HU := aM hu
   have HC := aM hcell
   clear HS1 hcell hu HS
   generalize l0.getD i [] = x at *
   obtain ⟨Ao, co, rfl, hco, _⟩ := HV.out.now
   have HP := aM (ahead_le x out)
   go_wp2_with fail
   go_loopg [5, 6] (ahead x out) (fun m v5 v6 w' => ∃ (k : Nat) (nx : List (List Sp)), v6 = .int .i64 k ∧ Aside0 (k + m = ahead x out) ∧ Aside0 (nx = out.take k ∧ nx.length = k) ∧ Aside0 (Own kSps 91 (Xp X v5) w' w.heap.size v5 nx) ∧ Aside0 (PV kSps (Xp X v5) w' (.slice Ao out.length co) out) ∧ Aside0 (Below w.heap.size w w'))
   case atStart => exact ⟨0, [], rfl, ⟨by omega⟩, ⟨rfl, rfl⟩, ⟨Own.nil _ _ _ _ _⟩, ⟨HV.out.to Xp_nil⟩, HB⟩
   case round =>
    clear HV HB
    obtain ⟨k, nx, rfl, HK, HN, HW, HV, HB⟩ := hrel
    have HUX := aM (HU.out.under HB.out HW.out.base)
    have hcx := pw_cell_below HB.out HC.out
    obtain ⟨adx, cx, rfl, hx0⟩ := first_cell HUX.out HXN.out
    have hk0 : (0 : Int) ≤ (k : Int) := by omega
    have hi2 : (0 : Int) ≤ (i : Int) := by omega
    have hi1 : (i : Int) < (l0.length : Int) := by omega
    have hlx : (0 : Int) < (x.length : Int) := by have := HXN.out; omega
    obtain ⟨A5, c5, e5, _, _⟩ := HW.out.now
    subst e5
    cases gk with
    | succ k2 =>
     have hk : k < out.length := by have := HK.out; have := HP.out; omega
     have hk3 : k < 1000000 := by have := HO.out.1; omega
     obtain ⟨ado, co', uo, eo, huo, hco2⟩ := HV.out.row k hk
     cases eo
     have hno := (HO.out).2 _ (mem_at out k hk)
     have hlt := ahead_lt x out k (by have := HK.out; omega)
     have HTK := aM (take_ats out k hk)
     obtain ⟨ad2, c2, rfl, hy0⟩ := first_cell huo hno
     have HUO := aM huo
     have d1 : decide ((k : Int) < (out.length : Int)) = true := dT (by omega)
     have d2 : decide (lo10 (out.getD k []) < lo10 x) = true := dT hlt
     have hlo : (0 : Int) < ((out.getD k []).length : Int) := by omega
     have hk1 : (k : Int) < (out.length : Int) := by omega
     clear huo hlt hno
     generalize out.getD k [] = y at *
     generalize lo10 x = n1 at *
     generalize lo10 y = n2 at *
     go_wp2_with fail
     go_quiet (fail)
     have HBn := aM (pw_below_drewN HB.out nq)
     go_wp2_with (first
      | ((with_reducible refine gate_dst (N := 39) rfl ?_); refine lit kSps 91 (X := Xp X (.slice A5 nx.length c5)) ?hg (N := 39) ?hd (xs := [y]) (inner := [.slice (some ad2) y.length c2]) ?hr ?hp ((HW.out.below (bn _ nq)).under (fun k hk => Nat.lt_of_lt_of_le (HX.out k hk) HBn.out.size)) (by simp) HBn.out HBn.out.size ?_; (case hd => rfl); (case hg => rfl); (case hr => first | (go_simp; done) | (go_simp; rfl)); (case hp => exact Reps.one (PK.slice (HUO.out.below (bn _ nq))) (Reps.none _ _)); intro v7 w7 hv hb3 hb; have H7 := aM hv; have HW7 := aM ((HW.out.below (bn _ nq)).below hb3); have HV7 := aM ((HV.out.below (bn _ nq)).below hb3); have HB7 := aM hb; clear hv hb3 hb; obtain ⟨A_v7, c_v7, e_v7, _⟩ := H7.out.now; subst e_v7)
      | ((with_reducible refine gate_builtin (b := .append) (xs := #[.tmp 34, .tmp 39]) rfl ?_); at_builtin; refine grow kSps w.heap.size rfl (.tmp 34) (.tmp 39) 78 91 (.slice none 0 0) 24 rfl Tryz.underlying78 info91 rfl (by decide) (by omega) _ _ nx [y] rfl rfl HW7.out H7.out HB7.out.size (by have := HN.out.2; have := HO.out.1; simp; omega) HB7.out ?_; intro v8 w8 ho hat hg hb; have HW8 := aM ho; have HV8 := aM (HV7.out.app hat hg); have HB8 := aM hb; clear ho hat hg hb))
     go_roundg k2
     case measure => omega
     case rel => exact ⟨k + 1, nx ++ [y], by go_num, ⟨by have := HK.out; omega⟩, ⟨by rw [HN.out.1]; exact HTK.out.symm, by simp [HN.out.2]⟩, HW8, HV8, HB8⟩
    | zero =>
     have hkp : k ≤ out.length := by have := HK.out; have := HP.out; omega
     obtain ⟨u9, hu9, hrun9⟩ := HV.out.from_ (P := Tryz.prog) 78 91 Tryz.underlying78 hi0 hsz0 k hkp
     have H9 := aM hu9
     have HKE := aM (show k = ahead x out by have := HK.out; omega)
     have hk3 : k ≤ 1000000 := by have := HO.out.1; omega
     clear hu9 hkp
     have fin : ∀ (v9 : Value) (w9 : World), Own kSps 91 (Xp X v9) w9 w.heap.size v9 (nx ++ [x] ++ out.drop k) → PV kSps X w9 v9 (ins10 x out) := fun v9 w9 h => by
      have := h.done HX.out
      rw [HN.out.1, HKE.out] at this
      exact this
     have HF := aM fin
     clear fin
     rcases Nat.lt_or_ge k out.length with hk | hk
     case' inl =>
      obtain ⟨ado, co', uo, eo, huo, hco2⟩ := HV.out.row k hk
      cases eo
      have hno := (HO.out).2 _ (mem_at out k hk)
      have hge := ahead_at x out (by rw [← HKE.out]; exact hk)
      rw [← HKE.out] at hge
      obtain ⟨ad2, c2, rfl, hy0⟩ := first_cell huo hno
      have d1 : decide ((k : Int) < (out.length : Int)) = true := dT (by omega)
      have d2 : decide (lo10 (out.getD k []) < lo10 x) = false := dF hge
      have hlo : (0 : Int) < ((out.getD k []).length : Int) := by omega
      have hk1 : (k : Int) < (out.length : Int) := by omega
      clear huo hge hno
      generalize out.getD k [] = y at *
     case' inr =>
      have d1 : decide ((k : Int) < (out.length : Int)) = false := dF (by omega)
      have d3 : decide (k < out.length) = false := dF (by omega)
     all_goals
      go_wp2_with fail
      go_quiet (fail)
      have HBn := aM (pw_below_drewN HB.out nq)
      go_wp2_with (first
       | ((with_reducible refine gate_dst (N := 48) rfl ?_); refine lit kSps 91 (X := Xp X (.slice A5 nx.length c5)) ?hg (N := 48) ?hd (xs := [x]) (inner := [.slice (some adx) x.length cx]) ?hr ?hp ((HW.out.below (bn _ nq)).under (fun k hk => Nat.lt_of_lt_of_le (HX.out k hk) HBn.out.size)) (by simp) HBn.out HBn.out.size ?_; (case hd => rfl); (case hg => rfl); (case hr => first | (go_simp; done) | (go_simp; rfl)); (case hp => exact Reps.one (PK.slice (HUX.out.below (bn _ nq))) (Reps.none _ _)); intro v7 w7 hv hb3 hb; have H7 := aM hv; have HW7 := aM ((HW.out.below (bn _ nq)).below hb3); have H97 := aM ((H9.out.below (bn _ nq)).below hb3); have HB7 := aM hb; clear hv hb3 hb; obtain ⟨A_v7, c_v7, e_v7, _⟩ := H7.out.now; subst e_v7)
       | ((with_reducible refine gate_builtin (b := .append) (xs := #[.tmp 43, .tmp 48]) rfl ?_); at_builtin; refine grow kSps w.heap.size rfl (.tmp 43) (.tmp 48) 78 91 (.slice none 0 0) 24 rfl Tryz.underlying78 info91 rfl (by decide) (by omega) _ _ nx [x] rfl rfl HW7.out H7.out HB7.out.size (by have := HN.out.2; have := HO.out.1; simp; omega) HB7.out ?_; intro v8 w8 ho hat hg hb; have HW8 := aM ho; have H98 := aM (H97.out.app hat hg); have HB8 := aM hb; clear ho hat hg hb)
       | ((with_reducible refine gate_builtin (b := .append) (xs := #[.tmp 50, .tmp 53]) rfl ?_); at_builtin; refine grow kSps w.heap.size rfl (.tmp 50) (.tmp 53) 78 91 (.slice none 0 0) 24 rfl Tryz.underlying78 info91 rfl (by decide) (by omega) _ _ (nx ++ [x]) (out.drop k) rfl rfl HW8.out H98.out HB8.out.size (by have := HN.out.2; have := HO.out.1; simp; omega) HB8.out ?_; intro v9 w9 ho hat hg hb; have HW9 := aM ho; have HB9 := aM hb; clear ho hat hg hb))
      go_roundg k1
      case measure => omega
      case rel => exact ⟨i + 1, _, by go_num, ⟨by have := HJ.out; omega⟩, ⟨HF.out _ _ HW9.out⟩, ⟨by rw [ins_len, HO.out.1], fun z hz => (ins_mem x z out hz).elim (fun e => by rw [e]; exact HXN.out) (HO.out.2 z)⟩, HS2, HB9⟩
end Go.Proofs.YtplhfgobeicegaaGreatDoor.P
