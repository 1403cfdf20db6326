/- The walk of RateEnds. -/
import Derived.Test.YtaacbjchjdjieaaGreatDoorRP
namespace Go.Proofs.YtaacbjchjdjieaaGreatDoor.P
open Go Go.RowKit Go.Proofs.YtaacbjchjdjieaaGreatDoorW.PrintWords Go.Proofs.YtaacbjchjdjieaaGreatDoorW.PrintLast Go.Proofs.YtaacbjchjdjieaaGreatDoorW.PrintMore
set_option linter.unusedVariables false
set_option linter.unusedSimpArgs false
set_option maxRecDepth 100000
theorem infoF : (Tryz.prog.info? 35).map (fun i => (i.zero, i.size, i.bytes)) = some (some (.float .f64 0), 1, 8) := by kernel_rfl
def toW (l : List Int) : List Nat := l.map Int.toNat
theorem toW_words (l : List Int) (h : ∀ x ∈ l, 0 ≤ x ∧ x < 18446744073709551616) : words (toW l) := by
  intro y hy
  obtain ⟨x, hx, rfl⟩ := List.mem_map.1 hy
  have := h x hx
  omega
theorem toW_len (l : List Int) : (toW l).length = l.length := by simp [toW]
theorem take_one {α : Type} (l : List α) (j : Nat) (d : α) (h : j < l.length) : l.take (j + 1) = l.take j ++ [l.getD j d] := by
  rw [List.take_succ_eq_append_getElem h]; simp [List.getD_eq_getElem?_getD, h]
set_option maxHeartbeats 4000000 in
theorem ends_calls (A : Option Addr) (c : Nat) (l : List Int) (hl : ∀ x ∈ l, 0 ≤ x ∧ x < 18446744073709551616) (w : World) (hr : (Kd.int .u64).C w A l.length l) (ho : Opt w) (hp : PowTab w) (h15 : Pow15 w) :
    Calls Tryz.prog 7 #[.slice A l.length c] w fun e w' => e = .returned (.bool true) ∧ Below w.heap.size w w' := by
  have HR := Aside0.mk hr
  have HL := Aside0.mk (toW_words l hl)
  have HO := Aside0.mk ho
  have HP := Aside0.mk hp
  have H15 := Aside0.mk h15
  have hmx : l.length ≤ 9223372036854775807 := Kd.C_max hr
  clear hr hl ho hp h15
  by_cases big : (l.length : Int) > 200
  · have hd : decide ((l.length : Int) > 200) = true := decide_eq_true big
    have hd2 : decide (l.length > 200) = true := decide_eq_true (by omega)
    clear big
    go_enter Tryz.func7, Tryz.ntmps7
    go_wp2_with fail
    refine (known_calls _ HO.out HP.out H15.out).mono ?_
    rintro e w1 ⟨rfl, hb1⟩
    go_wp2_with fail
    go_ret
    exact ⟨rfl, hb1⟩
  · have hd : decide ((l.length : Int) > 200) = false := decide_eq_false big
    have hd2 : decide (l.length > 200) = false := decide_eq_false (by omega)
    have HLEN := Aside0.mk (show l.length ≤ 200 by omega)
    clear big hmx
    go_enter Tryz.func7, Tryz.ntmps7
    go_wp2_with fail
    refine (known_calls _ HO.out HP.out H15.out).mono ?_
    rintro e w1 ⟨rfl, hb1⟩
    have HB1 := Aside0.mk hb1
    clear hb1 hd hd2
    have e1 := frombits
    go_wp2_with fail
    go_loopg [3, 4] l.length (fun m v3 v4 w' => ∃ (j : Nat), v4 = .int .i64 j ∧ Aside0 (j + m = l.length) ∧ Aside0 (fk.R 35 w' w.heap.size (fun _ => True) v3 ((toW l).take j)) ∧ Aside0 (Below w.heap.size w w'))
    case atStart => exact ⟨0, rfl, ⟨by omega⟩, ⟨Kd.R_nil _ _ _ _ _⟩, HB1⟩
    case round =>
      obtain ⟨j, rfl, HJ, HV, HB⟩ := hrel
      cases gk with
      | succ k1 =>
        have hj : j < l.length := by have := HJ.out; omega
        have hj2 : j < 200 := by have := HLEN.out; omega
        obtain ⟨ad, rfl, hc⟩ := Kd.at_int (Kd.C_below HR.out HB.out) (j : Int) (by omega) (by omega)
        simp only [Int.toNat_natCast] at hc
        have ht := take_one (toW l) j 0 (by rw [toW_len]; exact hj)
        have hg : (toW l).getD j 0 = (rd l (j : Int)).toNat := by simp [toW, rd, List.getD_eq_getElem?_getD, hj]
        rw [hg] at ht
        have HT := Aside0.mk ht
        clear ht hg
        generalize rd l (j : Int) = x at *
        obtain ⟨Av, cv, ev⟩ := Kd.R_slice HV.out
        subst ev
        have hlt : ((toW l).take j).length = j := by rw [List.length_take, toW_len]; omega
        go_wp2_with (first
          | ((with_reducible refine gate_dst (N := 30) rfl ?_); refine Kd.R_lit fk w.heap.size 35 ?hg (N := 30) ?hd (xs := ([x.toNat] : List Nat)) (inner := [.float .f64 x.toNat]) (ok := fun _ => True) (okp := fun _ => True) ?hr ?hp (fun _ hk => hk) trivial HB.out (HB.out.size) (by simp) ?_; (case hd => rfl); (case hg => rfl); (case hr => first | (go_simp; done) | (go_simp; rfl)); (case hp => exact (Reps.one (show fk.M _ _ _ x.toNat [.float .f64 x.toNat] from rfl) (Reps.none _ _))); intro v1 w2 ho hb hg_ hnew_; have HV2 := Aside0.mk (Kd.R_grown HV.out hg_ (fun k _ e => by cases e)); have HO2 := Aside0.mk ho; have HB2 := Aside0.mk hb; clear ho hb hg_ hnew_; obtain ⟨Ao, co, eo⟩ := Kd.R_slice HO2.out; subst eo)
          | ((with_reducible refine gate_builtin (b := .append) (xs := #[.tmp 24, .tmp 30]) rfl ?_); at_builtin; refine Kd.R_append_rows fk (w0 := w) w.heap.size rfl (.tmp 24) (.tmp 30) 44 35 (.float .f64 0) 8 rfl Tryz.underlying44 infoF rfl (by decide) (by omega) _ ((toW l).take j) [x.toNat] _ _ _ (fun _ => True) (fun _ => False) rfl rfl HV2.out ((Kd.R_reads' HO2.out).2.2) (fun _ _ h => h) (fun _ h => h.elim) (fun _ _ => trivial) HB2.out HB2.out.size (by have := HLEN.out; simp; omega) ?_; intro v5 w5 ho hb hg_ hat_; clear hg_ hat_; have HV5 := Aside0.mk ho; have HB5 := Aside0.mk hb; clear ho hb))
        go_roundg k1
        case measure => omega
        case rel => exact ⟨j + 1, by go_num, ⟨by have := HJ.out; omega⟩, ⟨by rw [HT.out]; exact HV5.out⟩, HB5⟩
      | zero =>
        obtain rfl : j = l.length := by have := HJ.out; omega
        have hlt : ((toW l).take l.length) = toW l := List.take_of_length_le (by rw [toW_len]; exact Nat.le_refl _)
        rw [hlt] at HV
        have hle : (toW l).length = l.length := toW_len l
        have hd : decide ((l.length : Int) < (l.length : Int)) = false := decide_eq_false (by omega)
        have hd2 : decide (l.length < l.length) = false := decide_eq_false (by omega)
        obtain ⟨Av, cv, ev⟩ := Kd.R_slice HV.out
        subst ev
        have HLW := Aside0.mk (show (toW l).length ≤ 200 by have := HLEN.out; omega)
        clear hlt HLEN
        generalize toW l = x at *
        rw [← hle] at hd hd2 ⊢
        clear hle HJ HR
        have HC := Aside0.mk ((Kd.R_reads' HV.out).2.2)
        go_wp2_with fail
        refine (Ends_calls _ _ _ HL.out _ HC.out).mono ?_
        rintro e w3 ⟨rfl, hw3⟩
        subst hw3
        have HK := Aside0.mk (endsL_key x 9218868437227405312 18442240474082181120)
        have HWD := Aside0.mk (endsL_word x 9218868437227405312 18442240474082181120 HL.out (by unfold word; omega) (by unfold word; omega))
        go_wp2_with fail
        refine (REnds_calls _ _ _ HL.out _ HC.out).mono ?_
        rintro e w4 ⟨rfl, hw4⟩
        subst hw4
        generalize (endsL x 9218868437227405312 18442240474082181120).1 = a at *
        generalize (endsL x 9218868437227405312 18442240474082181120).2 = b at *
        have hx200 : x.length ≤ 200 := HLW.out
        go_wp2_with fail
        go_loopg [9] x.length (fun m v9 w' => ∃ j : Nat, v9 = .int .i64 j ∧ Aside0 (j + m = x.length) ∧ Aside0 (Below w.heap.size w w') ∧ Aside0 (fk.C w' Av x.length x))
        case atStart => exact ⟨0, rfl, ⟨by omega⟩, HB, HC⟩
        case round =>
          clear HB HC HV hd hd2
          obtain ⟨j, rfl, HJ, HB, HC⟩ := hrel
          cases gk with
          | zero =>
            have hd : decide ((j : Int) < (x.length : Int)) = false := decide_eq_false (by have := HJ.out; omega)
            have hd2 : decide (j < x.length) = false := decide_eq_false (by have := HJ.out; omega)
            go_wp2_with fail
            refine (Same_true a a (by rw [decide_eq_true rfl, Bool.or_true]) _).mono ?_
            rintro e w5 ⟨rfl, hw5⟩
            subst hw5
            go_wp2_with fail
            refine (Same_true b b (by rw [decide_eq_true rfl, Bool.or_true]) _).mono ?_
            rintro e w6 ⟨rfl, hw6⟩
            subst hw6
            go_wp2_with fail
            go_ret
            exact ⟨rfl, HB.out⟩
          | succ k2 =>
            have hj : j < x.length := by have := HJ.out; omega
            obtain ⟨ad, rfl, hc⟩ := fk_at HC.out j hj
            have hwx := words_at HL.out j hj
            have hmem : x.getD j 0 ∈ x := by
              simp only [List.getD_eq_getElem?_getD, hj, List.getElem?_eq_getElem, Option.getD_some]
              exact List.getElem_mem hj
            have hk := HK.out.2.2 _ hmem
            generalize x.getD j 0 = y at *
            clear hmem
            have HN := Aside0.mk (fun w => isNaN_calls y w)
            cases ny : FL.nan y with
            | true =>
              rw [ny] at HN
              clear hk hwx
              go_wp2_with fail
              refine (HN.out _).mono ?_
              rintro e w5 ⟨rfl, hw5⟩
              subst hw5
              go_wp2_with fail
              go_roundg k2
              case measure => omega
              case rel => exact ⟨j + 1, by go_num, ⟨by have := HJ.out; omega⟩, HB, HC⟩
            | false =>
              rw [ny] at HN
              obtain ⟨k1, k3⟩ := hk ny
              have HC1 := Aside0.mk (fun w => Cmp_calls y a hwx HWD.out.1 w)
              have HC2 := Aside0.mk (fun w => Cmp_calls y b hwx HWD.out.2 w)
              have d1 : decide (FL.cmpK y a < 0) = false := decide_eq_false (by
                have h1 := (FL.cmpK_le a y).2 k1
                have h2 := FL.cmpK_swap a y
                omega)
              have d2 : decide (FL.cmpK y b > 0) = false := decide_eq_false (by
                have h1 := (FL.cmpK_le y b).2 k3
                omega)
              clear k1 k3 hk hwx
              generalize FL.cmpK y a = q1 at *
              generalize FL.cmpK y b = q2 at *
              go_wp2_with fail
              refine (HN.out _).mono ?_
              rintro e w5 ⟨rfl, hw5⟩
              subst hw5
              go_wp2_with fail
              refine (HC1.out _).mono ?_
              rintro e w6 ⟨rfl, hw6⟩
              subst hw6
              go_wp2_with fail
              refine (HC2.out _).mono ?_
              rintro e w7 ⟨rfl, hw7⟩
              subst hw7
              go_wp2_with fail
              go_roundg k2
              case measure => omega
              case rel => exact ⟨j + 1, by go_num, ⟨by have := HJ.out; omega⟩, HB, HC⟩
end Go.Proofs.YtaacbjchjdjieaaGreatDoor.P
