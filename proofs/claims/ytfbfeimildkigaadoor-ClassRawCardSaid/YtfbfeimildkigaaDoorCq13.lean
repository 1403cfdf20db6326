/- Part 13 of the proof: T09, T10. -/
import Derived.Test.YtfbfeimildkigaaDoorCq12
namespace Go.Proofs.YtfbfeimildkigaaDoor.P
open Go Go.RowKit Go.Proofs.YtfbfeimildkigaaDoorW.PrintWords Go.Proofs.YtfbfeimildkigaaDoorW.PrintLast Go.Proofs.YtfbfeimildkigaaDoorW.PrintMore Go.Proofs.YtfbfeimildkigaaDoor.PX
set_option linter.unusedVariables false
set_option linter.unusedSimpArgs false
set_option maxRecDepth 100000
def wkGo (cl : List Int) (next : List (List Int)) (tags : List Int) : List Int → Nat → Nat → Int × Int → Nat × Int × Int
  | [], _, i, p => (i, p)
  | c :: t, a, i, p => if tGo cl next a c.toNat < 0 then (i + 1, p) else
      wkGo cl next tags t (tGo cl next a c.toNat).toNat (i + 1) (if 0 ≤ tags.getD (tGo cl next a c.toNat).toNat 0 then (((i + 1 : Nat) : Int), tags.getD (tGo cl next a c.toNat).toNat 0) else p)
theorem wk_steps (cl : List Int) (next : List (List Int)) (tags : List Int) : ∀ (s : List Int) (a i : Nat) (p : Int × Int), (wkGo cl next tags s a i p).1 = stGo cl next s a i
  | [], a, i, p => rfl
  | c :: t, a, i, p => by
    rw [wkGo, stGo]
    split
    · rfl
    · exact wk_steps cl next tags t _ _ _
theorem back_at {cl : List Int} {next : List (List Int)} {a c : Nat} (ha : a < next.length) (hc : c < 256) : ((next.map (backRow cl)).getD a []).getD c 0 = tGo cl next a c := by
  unfold tGo backRow
  rw [List.getD_eq_getElem?_getD (l := next.map _), List.getElem?_map, List.getElem?_eq_getElem ha, Option.map_some, Option.getD_some, List.getD_eq_getElem?_getD (l := List.map _ _), List.getElem?_map, List.getElem?_range hc, Option.map_some, Option.getD_some, List.getD_eq_getElem?_getD (l := next), List.getElem?_eq_getElem ha, Option.getD_some]
theorem wk_long {cl : List Int} {next : List (List Int)} {tags : List Int} (hl : next.length = tags.length) (ht : ∀ a c, a < tags.length → c < 256 → -1 ≤ tGo cl next a c ∧ tGo cl next a c < (tags.length : Int)) :
    ∀ (s : List Int) (a i : Nat) (p : Int × Int), U8s s → a < tags.length → (wkGo cl next tags s a i p).2 = lgGo (next.map (backRow cl)) tags s a i p
  | [], a, i, p, _, _ => rfl
  | c :: t, a, i, p, hu, ha => by
    have hc := hu c List.mem_cons_self
    have h1 := ht a c.toNat ha (by omega)
    rw [wkGo, lgGo, back_at (by omega) (by omega)]
    split
    · rfl
    · exact wk_long hl ht t _ _ _ (fun x hx => hu x (List.mem_cons_of_mem _ hx)) (by omega)
theorem tsound_go {cl : List Int} {next : List (List Int)} {tags : List Int} {n : Nat} (hcl : cl.length = 256) (hcn : ∀ c ∈ cl, 0 ≤ c ∧ c < (n : Int)) (h : TSoundN n next tags) (a c : Nat) (ha : a < tags.length) (hc : c < 256) : -1 ≤ tGo cl next a c ∧ tGo cl next a c < (tags.length : Int) := by
  have h1 := hcn _ (mem_getD cl 0 c (by omega))
  exact (h.2.1 a ha).2.2 _ (by omega)
theorem back_sound {cl : List Int} {next : List (List Int)} {tags : List Int} (hu : U8s cl) (h : TSound cl next tags) : BSound (next.map (backRow cl)) tags := by
  obtain ⟨n, hn, hn256, hcl, hcn, hso⟩ := tsound_head hu h
  refine ⟨⟨hso.1.2.1, hso.1.2.2.1, by rw [List.length_map]; exact hso.1.2.2.2⟩, fun i hi => ?_⟩
  have hin : i < next.length := by have := hso.1.2.2.2; omega
  refine ⟨?_, (hso.2.1 i hi).2.1, fun j hj => ?_⟩
  · rw [List.getD_eq_getElem?_getD, List.getElem?_map, List.getElem?_eq_getElem hin]; simp [backRow]
  · rw [back_at hin hj]
    exact tsound_go hcl hcn hso i j hi hj
set_option maxHeartbeats 16000000 in
theorem walk_calls (X : Nat → Prop) (vc vn vt vs : Value) (cl : List Int) (next : List (List Int)) (tags s : List Int) (w : World) (hX : ∀ k, X k → k < w.heap.size)
    (hc : PV kU8 X w vc cl) (hn : PV kRow X w vn next) (ht : PV kInt X w vt tags) (hs : PV kU8 X w vs s) (huc : U8s cl) (hu : U8s s) (hso : TSound cl next tags) :
    Calls Tryd.prog 33 #[.agg #[vc, vn, vt], vs] w fun e w' => e = .returned (.tuple #[.int .i64 ((wkGo cl next tags s 0 0 (0, -1)).1 : Int), .int .i64 (wkGo cl next tags s 0 0 (0, -1)).2.1, .int .i64 (wkGo cl next tags s 0 0 (0, -1)).2.2]) ∧ Below w.heap.size w w' := by
  have H0 := Aside0.mk hc
  have H1 := Aside0.mk hn
  have H2 := Aside0.mk ht
  have H3 := Aside0.mk hs
  have HUC := Aside0.mk huc
  have HU := Aside0.mk hu
  have m0 := hc.max
  have m1 := hn.max
  have m2 := ht.max
  have m3 := hs.max
  obtain ⟨Ac, cc, rfl, _, _⟩ := hc.now
  obtain ⟨An, cn, rfl, _, _⟩ := hn.now
  obtain ⟨At, ct, rfl, _, _⟩ := ht.now
  obtain ⟨As, cs, rfl, _, _⟩ := hs.now
  have HS := Aside0.mk ((Sep.start hX).push_box [.slice Ac cl.length cc, .slice An next.length cn, .slice At tags.length ct] 31)
  have HR2 := Aside0.mk (show wkGo cl next tags (s.drop 0) 0 0 (0, -1) = wkGo cl next tags s 0 0 (0, -1) from rfl)
  obtain ⟨r, hr⟩ : ∃ r, r = wkGo cl next tags s 0 0 (0, -1) := ⟨_, rfl⟩
  rw [← hr] at HR2 ⊢
  obtain ⟨n, hn, hn256, hcl, hcn, hso⟩ := tsound_head huc hso
  have HSN := Aside0.mk hso
  have HCN := Aside0.mk hcn
  have HCL := Aside0.mk hcl
  clear hc hn ht hs hu huc hX hr hcl hcn hso
  go_enter Tryd.func33, Tryd.ntmps33
  go_wp2_with fail
  go_step3
  go_wp2_with fail
  go_step3
  go_wp2_with fail
  obtain ⟨g0, hg0⟩ : ∃ g, g = w.heap.size := ⟨_, rfl⟩
  rw [← hg0] at HS ⊢
  clear hg0
  go_loopg [4, 5, 6, 7, 8, 9, 12] s.length (fun m v4 v5 v6 v7 v8 v9 v12 w' => ∃ (i a : Nat) (p : Int × Int), v4 = .int .i64 i ∧ v5 = .int .i64 p.1 ∧ v6 = .int .i64 p.2 ∧ v7 = .int .i64 a ∧ v12 = .int .i64 i ∧ Aside0 (i + m = s.length) ∧ Aside0 (a < tags.length) ∧ Aside0 (wkGo cl next tags (s.drop i) a i p = r) ∧ Aside0 (Sep X w w' [.box g0 31 [.slice Ac cl.length cc, .slice An next.length cn, .slice At tags.length ct]]))
  case atStart => exact ⟨0, 0, (0, -1), rfl, rfl, rfl, rfl, rfl, ⟨by omega⟩, ⟨by have := HSN.out.1.2.1; omega⟩, HR2, HS⟩
  case round =>
    clear HS HR2
    obtain ⟨i, a, ⟨p1, p2⟩, rfl, rfl, rfl, rfl, rfl, HJ, HA, HR, HS⟩ := hrel
    have y0 := (HS.out.box 0 rfl).cell 0 rfl
    have y1 := (HS.out.box 0 rfl).cell 1 rfl
    have y2 := (HS.out.box 0 rfl).cell 2 rfl
    cases gk with
    | zero =>
      have e1 : decide ((i : Int) < (s.length : Int)) = false := decide_eq_false (by have := HJ.out; omega)
      have e2 : decide (i < s.length) = false := decide_eq_false (by have := HJ.out; omega)
      have HE := Aside0.mk (show (i, p1, p2) = r by have h := HR.out; rwa [List.drop_of_length_le (by have := HJ.out; omega), wkGo] at h)
      go_wp2_with fail
      rw [Exit.noGoto_ret]
      go_ret3
      rw [← HE.out]
      exact ⟨rfl, HS.out.below⟩
    | succ k1 =>
      have hi : i < s.length := by have := HJ.out; omega
      have ha : a < next.length := by have := HA.out; have := HSN.out.1.2.2.2; omega
      have e1 : decide ((i : Int) < (s.length : Int)) = true := decide_eq_true (by omega)
      have e2 : decide (i < s.length) = true := decide_eq_true hi
      have hi0 : (0 : Int) ≤ (i : Int) := by omega
      have hi1 : (i : Int) < (s.length : Int) := by omega
      have ha0 : (0 : Int) ≤ (a : Int) := by omega
      have ha1 : (a : Int) < (next.length : Int) := by omega
      obtain ⟨c, hc, hc2⟩ := u8s_at HU.out i hi
      obtain ⟨as_, cs', es, ys0⟩ := u8_cell H3.out i hi
      cases es
      rw [hc] at ys0
      obtain ⟨ac, cc', ec, yc0⟩ := u8_cell H0.out c (by have := HCL.out; omega)
      cases ec
      have hk := HCN.out _ (mem_getD cl 0 c (by have := HCL.out; omega))
      obtain ⟨k, hk2⟩ : ∃ k : Nat, cl.getD c 0 = (k : Int) := ⟨(cl.getD c 0).toNat, by omega⟩
      rw [hk2] at yc0 hk
      have HR3 := HR.out
      rw [drop_at s 0 i hi, hc, wkGo, show ((c : Int).toNat) = c from rfl, tGo, hk2, show ((k : Int).toNat) = k from rfl] at HR3
      obtain ⟨an, cn', u, en, hun, yn0⟩ := H1.out.row a ha
      cases en
      have HBR := (HSN.out.2.1 a HA.out)
      have hl : (next.getD a []).length = n := HBR.1
      have hx := HBR.2.2 k (by omega)
      generalize next.getD a [] = row at *
      obtain ⟨Au, cu, rfl, _, _⟩ := hun.now
      obtain ⟨ar, cr, er, yr0⟩ := int_cell hun k (by omega)
      cases er
      obtain ⟨x, hx0⟩ : ∃ x, x = row.getD k 0 := ⟨_, rfl⟩
      rw [← hx0] at HR3 hx yr0
      have hc0 : (0 : Int) ≤ (c : Int) := by omega
      have hc1 : (c : Int) < (cl.length : Int) := by have := HCL.out; omega
      have hk0 : (0 : Int) ≤ (k : Int) := by omega
      have hk1 : (k : Int) < (row.length : Int) := by omega
      have ys := pw_cell_below HS.out.below ys0
      have yn := pw_cell_below HS.out.below yn0
      have yr := pw_cell_below HS.out.below yr0
      have yc := pw_cell_below HS.out.below yc0
      have HX := Aside0.mk hx
      have HR4 := Aside0.mk HR3
      clear HR3 hx hx0 HBR hun ys0 yn0 yr0 yc0 HR hl hc hk2 hk
      rcases Int.lt_or_le x 0 with h1 | h1
      case inl =>
        obtain rfl : x = -1 := by have := HX.out; omega
        have HE := Aside0.mk (show (i + 1, p1, p2) = r by have h := HR4.out; rwa [if_pos h1] at h)
        go_wp2_with fail
        go_quiet (fail)
        have HS2 := Aside0.mk (HS.out.drewN nq)
        go_wp2_with fail
        rw [Exit.noGoto_ret]
        go_ret3
        rw [← HE.out]
        exact ⟨by go_num, HS2.out.below⟩
      case inr =>
        have d1 : (x == -1) = false := beq_eq_false_iff_ne.mpr (by omega)
        obtain ⟨b, hb⟩ : ∃ b : Nat, x = (b : Int) := ⟨x.toNat, by omega⟩
        subst hb
        have hb : b < tags.length := by have := HX.out; omega
        have hb0 : (0 : Int) ≤ (b : Int) := by omega
        have hb1 : (b : Int) < (tags.length : Int) := by omega
        have HR5 := HR4.out
        rw [if_neg (by omega), show ((b : Int).toNat) = b from rfl] at HR5
        have HB5 := Aside0.mk hb
        obtain ⟨at_, ct', et, yt0⟩ := int_cell H2.out b hb
        cases et
        have yt := pw_cell_below HS.out.below yt0
        clear HR4 yt0
        generalize tags.getD b 0 = tg at *
        rcases Int.lt_or_le tg 0 with h2 | h2
        case inl =>
          have d2 : decide (tg ≥ 0) = false := decide_eq_false (by omega)
          have d3 : decide (0 ≤ tg) = false := decide_eq_false (by omega)
          rw [if_neg (by omega)] at HR5
          have HR6 := Aside0.mk HR5
          clear HR5
          go_wp2_with fail
          go_quiet (fail)
          have HS2 := Aside0.mk (HS.out.drewN nq)
          go_wp2_with fail
          go_roundg k1
          case measure => omega
          case rel => exact ⟨i + 1, b, (p1, p2), by go_num, rfl, rfl, rfl, by go_num, ⟨by have := HJ.out; omega⟩, HB5, HR6, HS2⟩
        case inr =>
          have d2 : decide (tg ≥ 0) = true := decide_eq_true (by omega)
          have d3 : decide (0 ≤ tg) = true := decide_eq_true (by omega)
          rw [if_pos (by omega)] at HR5
          have HR6 := Aside0.mk HR5
          clear HR5
          go_wp2_with fail
          go_quiet (fail)
          have HS2 := Aside0.mk (HS.out.drewN nq)
          go_wp2_with fail
          go_quiet (fail)
          go_wp2_with fail
          go_roundg k1
          case measure => omega
          case rel => exact ⟨i + 1, b, (((i + 1 : Nat) : Int), tg), by go_num, by go_num, rfl, rfl, by go_num, ⟨by have := HJ.out; omega⟩, HB5, HR6, ⟨HS.out.drewN _⟩⟩
theorem tsound_wk {cl : List Int} {next : List (List Int)} {tags s : List Int} (huc : U8s cl) (hu : U8s s) (h : TSound cl next tags) : wkGo cl next tags s 0 0 (0, -1) = (steps14 cl next tags s, long14 cl next tags s) := by
  obtain ⟨n, hn, hn256, hcl, hcn, hso⟩ := tsound_head huc h
  have h1 := wk_steps cl next tags s 0 0 (0, -1)
  have h2 := wk_long hso.1.2.2.2 (tsound_go hcl hcn hso) s 0 0 (0, -1) hu (by have := hso.1.2.1; omega)
  rw [steps14, if_pos h, long14, if_pos h, long13, if_pos (back_sound huc h), ← h1, ← h2]
set_option maxHeartbeats 16000000 in
theorem clong_calls (X : Nat → Prop) (vc vn vt vs : Value) (cl : List Int) (next : List (List Int)) (tags s : List Int) (w : World) (hX : ∀ k, X k → k < w.heap.size)
    (hc : PV kU8 X w vc cl) (hn : PV kRow X w vn next) (ht : PV kInt X w vt tags) (hs : PV kU8 X w vs s) (huc : U8s cl) (hu : U8s s) :
    Calls Tryd.prog 17 #[.agg #[vc, vn, vt], vs] w fun e w' => e = .returned (.tuple #[.int .i64 (long14 cl next tags s).1, .int .i64 (long14 cl next tags s).2]) ∧ Below w.heap.size w w' := by
  have H0 := Aside0.mk hc
  have H1 := Aside0.mk hn
  have H2 := Aside0.mk ht
  have H3 := Aside0.mk hs
  have HUC := Aside0.mk huc
  have HU := Aside0.mk hu
  have m0 := hc.max
  have m1 := hn.max
  have m2 := ht.max
  have m3 := hs.max
  obtain ⟨Ac, cc, rfl, _, _⟩ := hc.now
  obtain ⟨An, cn, rfl, _, _⟩ := hn.now
  obtain ⟨At, ct, rfl, _, _⟩ := ht.now
  obtain ⟨As, cs, rfl, _, _⟩ := hs.now
  have HS := Aside0.mk ((Sep.start hX).push_box [.slice Ac cl.length cc, .slice An next.length cn, .slice At tags.length ct] 31)
  obtain ⟨q, hq⟩ : ∃ q, q = decide (TSound cl next tags) := ⟨_, rfl⟩
  have HQ := Aside0.mk hq.symm
  clear hc hn ht hs hu huc hX hq
  cases q
  case false =>
    have HE := Aside0.mk (show long14 cl next tags s = (0, -1) by rw [long14, if_neg (of_decide_eq_false HQ.out)])
    go_enter Tryd.func17, Tryd.ntmps17
    go_wp2_with (first
      | (go_at_call 15; (with_reducible refine (csound_calls _ _ _ _ cl next tags _ HS.out.lt (HS.out.arg H0.out) (HS.out.arg H1.out) (HS.out.arg H2.out) HUC.out).mono ?_); rintro ee w5 ⟨rfl, hb⟩; rw [HQ.out]; have hs := HS.out.call hb; clear hb; clear HS; have HS := Aside0.mk hs; clear hs))
    go_ret2
    rw [HE.out]
    exact ⟨rfl, HS.out.below⟩
  case true =>
    have HW := Aside0.mk (tsound_wk HUC.out HU.out (of_decide_eq_true HQ.out))
    have y0 := ((HS.out.box 0 rfl).cell 0 rfl)
    go_enter Tryd.func17, Tryd.ntmps17
    go_wp2_with (first
      | (go_at_call 15; (with_reducible refine (csound_calls _ _ _ _ cl next tags _ HS.out.lt (HS.out.arg H0.out) (HS.out.arg H1.out) (HS.out.arg H2.out) HUC.out).mono ?_); rintro ee w5 ⟨rfl, hb⟩; rw [HQ.out]; have hs := HS.out.call hb; clear hb; have z0 := ((hs.box 0 rfl).cell 0 rfl); have z1 := ((hs.box 0 rfl).cell 1 rfl); have z2 := ((hs.box 0 rfl).cell 2 rfl); clear HS; have HS := Aside0.mk hs; clear hs)
      | (go_at_call 33; (with_reducible refine (walk_calls _ _ _ _ _ cl next tags s _ HS.out.lt (HS.out.arg H0.out) (HS.out.arg H1.out) (HS.out.arg H2.out) (HS.out.arg H3.out) HUC.out HU.out (of_decide_eq_true HQ.out)).mono ?_); rintro ee w6 ⟨rfl, hb⟩; rw [HW.out]; have hs := HS.out.call hb; clear hb; clear HS; have HS := Aside0.mk hs; clear hs))
    go_ret2
    exact ⟨rfl, HS.out.below⟩
set_option maxHeartbeats 16000000 in
theorem csteps_calls (X : Nat → Prop) (vc vn vt vs : Value) (cl : List Int) (next : List (List Int)) (tags s : List Int) (w : World) (hX : ∀ k, X k → k < w.heap.size)
    (hc : PV kU8 X w vc cl) (hn : PV kRow X w vn next) (ht : PV kInt X w vt tags) (hs : PV kU8 X w vs s) (huc : U8s cl) (hu : U8s s) :
    Calls Tryd.prog 20 #[.agg #[vc, vn, vt], vs] w fun e w' => e = .returned (.int .i64 (steps14 cl next tags s)) ∧ Below w.heap.size w w' := by
  have H0 := Aside0.mk hc
  have H1 := Aside0.mk hn
  have H2 := Aside0.mk ht
  have H3 := Aside0.mk hs
  have HUC := Aside0.mk huc
  have HU := Aside0.mk hu
  have m0 := hc.max
  have m1 := hn.max
  have m2 := ht.max
  have m3 := hs.max
  obtain ⟨Ac, cc, rfl, _, _⟩ := hc.now
  obtain ⟨An, cn, rfl, _, _⟩ := hn.now
  obtain ⟨At, ct, rfl, _, _⟩ := ht.now
  obtain ⟨As, cs, rfl, _, _⟩ := hs.now
  have HS := Aside0.mk ((Sep.start hX).push_box [.slice Ac cl.length cc, .slice An next.length cn, .slice At tags.length ct] 31)
  obtain ⟨q, hq⟩ : ∃ q, q = decide (TSound cl next tags) := ⟨_, rfl⟩
  have HQ := Aside0.mk hq.symm
  clear hc hn ht hs hu huc hX hq
  cases q
  case false =>
    have HE := Aside0.mk (show steps14 cl next tags s = 0 by rw [steps14, if_neg (of_decide_eq_false HQ.out)])
    go_enter Tryd.func20, Tryd.ntmps20
    go_wp2_with (first
      | (go_at_call 15; (with_reducible refine (csound_calls _ _ _ _ cl next tags _ HS.out.lt (HS.out.arg H0.out) (HS.out.arg H1.out) (HS.out.arg H2.out) HUC.out).mono ?_); rintro ee w5 ⟨rfl, hb⟩; rw [HQ.out]; have hs := HS.out.call hb; clear hb; clear HS; have HS := Aside0.mk hs; clear hs))
    go_ret
    rw [HE.out]
    exact ⟨rfl, HS.out.below⟩
  case true =>
    have HW := Aside0.mk (tsound_wk HUC.out HU.out (of_decide_eq_true HQ.out))
    go_enter Tryd.func20, Tryd.ntmps20
    go_wp2_with (first
      | (go_at_call 15; (with_reducible refine (csound_calls _ _ _ _ cl next tags _ HS.out.lt (HS.out.arg H0.out) (HS.out.arg H1.out) (HS.out.arg H2.out) HUC.out).mono ?_); rintro ee w5 ⟨rfl, hb⟩; rw [HQ.out]; have hs := HS.out.call hb; clear hb; have z0 := ((hs.box 0 rfl).cell 0 rfl); have z1 := ((hs.box 0 rfl).cell 1 rfl); have z2 := ((hs.box 0 rfl).cell 2 rfl); clear HS; have HS := Aside0.mk hs; clear hs)
      | (go_at_call 33; (with_reducible refine (walk_calls _ _ _ _ _ cl next tags s _ HS.out.lt (HS.out.arg H0.out) (HS.out.arg H1.out) (HS.out.arg H2.out) (HS.out.arg H3.out) HUC.out HU.out (of_decide_eq_true HQ.out)).mono ?_); rintro ee w6 ⟨rfl, hb⟩; rw [HW.out]; have hs := HS.out.call hb; clear hb; clear HS; have HS := Aside0.mk hs; clear hs))
    go_ret
    exact ⟨rfl, HS.out.below⟩
end Go.Proofs.YtfbfeimildkigaaDoor.P
namespace Go.Proofs.YtfbfeimildkigaaDoor.P
open Go Go.RowKit Go.Proofs.YtfbfeimildkigaaDoorW.PrintWords Go.Proofs.YtfbfeimildkigaaDoorW.PrintLast Go.Proofs.YtfbfeimildkigaaDoorW.PrintMore Go.Proofs.YtfbfeimildkigaaDoor.PX
set_option linter.unusedVariables false
set_option linter.unusedSimpArgs false
set_option maxRecDepth 100000
set_option maxHeartbeats 16000000 in
theorem cback_calls (X : Nat → Prop) (vc vn vt : Value) (cl : List Int) (next : List (List Int)) (tags : List Int) (w : World) (hX : ∀ k, X k → k < w.heap.size)
    (hc : PV kU8 X w vc cl) (hn : PV kRow X w vn next) (ht : PV kInt X w vt tags) (huc : U8s cl) :
    Calls Tryd.prog 11 #[.agg #[vc, vn, vt]] w fun e w' => ∃ v0 v1, e = .returned (.tuple #[.agg #[v0, v1], .int .u16 (back14 cl next tags).2]) ∧ PV kRow X w' v0 (back14 cl next tags).1.1 ∧ PV kInt X w' v1 (back14 cl next tags).1.2 ∧ Below w.heap.size w w' := by
  have H0 := Aside0.mk hc
  have H1 := Aside0.mk hn
  have H2 := Aside0.mk ht
  have HUC := Aside0.mk huc
  have m0 := hc.max
  have m1 := hn.max
  have m2 := ht.max
  obtain ⟨Ac, cc, rfl, _, _⟩ := hc.now
  obtain ⟨An, cn, rfl, _, _⟩ := hn.now
  obtain ⟨At, ct, rfl, _, _⟩ := ht.now
  have HS := Aside0.mk (((Sep.start hX).push_box [.slice Ac cl.length cc, .slice An next.length cn, .slice At tags.length ct] 31).push_box' [.slice none 0 0, .slice none 0 0] 27 (w.heap.size + 1) (by simp))
  obtain ⟨q, hq⟩ : ∃ q, q = decide (TSound cl next tags) := ⟨_, rfl⟩
  have HQ := Aside0.mk hq.symm
  obtain ⟨r, hr⟩ : ∃ r, r = back14 cl next tags := ⟨_, rfl⟩
  rw [← hr]
  have HR := Aside0.mk (show r = if TSound cl next tags then ((next.map (backRow cl), tags), 0) else (([], []), 1) from hr)
  clear hc hn ht huc hX hq hr
  go_enter Tryd.func11, Tryd.ntmps11
  go_upto_if 12 with (first
    | (go_at_call 15; (with_reducible refine (csound_calls _ _ _ _ cl next tags _ HS.out.lt (HS.out.arg H0.out) (HS.out.arg H1.out) (HS.out.arg H2.out) HUC.out).mono ?_); rintro ee w5 ⟨rfl, hb⟩; rw [HQ.out]; have hs := HS.out.call hb; clear hb; clear HS; have HS := Aside0.mk hs; clear hs))
  obtain ⟨g1, hg1⟩ : ∃ g, g = w.heap.size + 1 := ⟨_, rfl⟩
  obtain ⟨g0, hg0⟩ : ∃ g, g = w.heap.size := ⟨_, rfl⟩
  rw [← hg1, ← hg0] at HS ⊢
  clear hg0 hg1
  have x0 := ((HS.out.box 1 rfl).cell 0 rfl)
  have x1 := ((HS.out.box 1 rfl).cell 1 rfl)
  have f0 := (HS.out.box 1 rfl).open_ 0
  have f1 := (HS.out.box 1 rfl).open_ 1
  cases q
  case false =>
    have HE := Aside0.mk (show r = (([], []), 1) by rw [HR.out, if_neg (of_decide_eq_false HQ.out)])
    go_wp2_with fail
    have HSF := Aside0.mk ((HS.out.set_box 1 rfl 0 (.slice none 0 0)).set_box 1 rfl 1 (.slice none 0 0))
    refine bodyPost_ret (results_ct rfl _ _ g1 27 #[.slice none 0 0, .slice none 0 0] (0, 0) _ rfl (HSF.out.box 1 rfl) Tryd.underlying27 rfl (by kernel_rfl)) rfl ?_
    rw [HE.out]
    exact ⟨_, _, rfl, PV.nil _ _ _, PV.nil _ _ _, HSF.out.below⟩
  case true =>
    have HSO := Aside0.mk (of_decide_eq_true HQ.out)
    have HR2 := Aside0.mk (show r = ((next.map (backRow cl), tags), 0) by rw [HR.out, if_pos HSO.out])
    obtain ⟨n, hn, hn256, hcl, hcn, hso⟩ := tsound_head HUC.out HSO.out
    have HSN := Aside0.mk hso
    have HCN := Aside0.mk hcn
    have HCL := Aside0.mk hcl
    have HNT := Aside0.mk (show next.length = tags.length ∧ tags.length ≤ 40000 from ⟨hso.1.2.2.2, hso.1.2.2.1⟩)
    have y2 := ((HS.out.box 0 rfl).cell 2 rfl)
    clear HR hn hcl hcn hso HSO HQ x0 x1 f0 f1
    go_wp2_with (first
      | (go_at_call 26; (with_reducible refine (clone_calls _ _ tags _ HS.out.lt (HS.out.arg H2.out) (by have := HNT.out; omega)).mono ?_); rintro ee w6 ⟨v24, rfl, ho, hb⟩; obtain ⟨A24, c24, rfl, _⟩ := ho.now; have hs := (HS.out.push_row hb ho).push_box [.slice none 0 0, .slice A24 tags.length c24] 27; have y1 := ((hs.box 0 rfl).cell 1 rfl); clear hb ho y2; clear HS; have HS := Aside0.mk hs; clear hs))
    obtain ⟨g2, hg2⟩ : ∃ g, g = w6.heap.size := ⟨_, rfl⟩
    rw [← hg2] at HS ⊢
    clear hg2 y1
    go_loopg [6, 7, 8, 9, 21] next.length (fun m v6 v7 v8 v9 v21 w' => ∃ (i : Nat) (vN : Value) (N : List (List Int)), v21 = .int .i64 i ∧ Aside0 (i + m = next.length) ∧ Aside0 (N = (next.take i).map (backRow cl)) ∧ Aside0 (Sep X w w' ([.box g0 31 [.slice Ac cl.length cc, .slice An next.length cn, .slice At tags.length ct], .box g1 27 [.slice none 0 0, .slice none 0 0], .row kInt 3 (.slice A24 tags.length c24) tags, .box g2 27 [vN, .slice A24 tags.length c24], .row kRow 25 vN N] : List PX.Item)))
    case atStart => exact ⟨0, _, [], rfl, ⟨by omega⟩, ⟨rfl⟩, ⟨HS.out.push_nil kRow 25⟩⟩
    case round =>
      clear HS
      obtain ⟨i, vN, N, rfl, HJ, HN, HS⟩ := hrel
      obtain ⟨A4, c4, e4⟩ := HS.out.form 4 rfl
      subst e4
      cases gk with
      | zero =>
        have hi : i = next.length := by have := HJ.out; omega
        have e1 : decide ((i : Int) < (next.length : Int)) = false := decide_eq_false (by omega)
        have e2 : decide (i < next.length) = false := decide_eq_false (by omega)
        have HRR := Aside0.mk (show r = ((N, tags), 0) by rw [HR2.out, HN.out, hi, List.take_length])
        clear HN HJ hi HR2
        have z0 := ((HS.out.box 3 rfl).cell 0 rfl)
        have z1 := ((HS.out.box 3 rfl).cell 1 rfl)
        have x0 := ((HS.out.box 1 rfl).cell 0 rfl)
        have x1 := ((HS.out.box 1 rfl).cell 1 rfl)
        have f0 := (HS.out.box 1 rfl).open_ 0
        have f1 := (HS.out.box 1 rfl).open_ 1
        go_wp2_with fail
        have HSF := Aside0.mk ((HS.out.set_box 1 rfl 0 (.slice A4 N.length c4)).set_box 1 rfl 1 (.slice A24 tags.length c24))
        refine bodyPost_ret (results_ct rfl _ _ g1 27 #[.slice A4 N.length c4, .slice A24 tags.length c24] (0, 0) _ rfl (HSF.out.box 1 rfl) Tryd.underlying27 rfl (by kernel_rfl)) rfl ?_
        rw [HRR.out]
        exact ⟨_, _, rfl, HSF.out.res_row 4 rfl, HSF.out.res_row 2 rfl, HSF.out.below⟩
      | succ k1 =>
        have hi : i < next.length := by have := HJ.out; omega
        have hit : i < tags.length := by have := HNT.out; omega
        have e1 : decide ((i : Int) < (next.length : Int)) = true := decide_eq_true (by omega)
        have e2 : decide (i < next.length) = true := decide_eq_true hi
        have hi0 : (0 : Int) ≤ (i : Int) := by omega
        have hi1 : (i : Int) < (next.length : Int) := by omega
        obtain ⟨an, cn', u, en, hu, yn⟩ := H1.out.row i hi
        cases en
        obtain ⟨Au, cu, rfl, _, _⟩ := hu.now
        have HU := Aside0.mk hu
        have yr := pw_cell_below HS.out.below yn
        have HRL := Aside0.mk (show (next.getD i []).length = n from (HSN.out.2.1 i hit).1)
        have HN2 := Aside0.mk (show N ++ [backRow cl (next.getD i [])] = (next.take (i + 1)).map (backRow cl) by rw [take_at next [] i hi, List.map_append, HN.out]; rfl)
        have HPL := Aside0.mk (show N.length + 1 ≤ 1000000 by rw [HN.out]; have := HNT.out; simp; omega)
        generalize next.getD i [] = row at *
        clear hu yn HN
        go_wp2_with (first
          | ((with_reducible refine gate_dst (N := 25) rfl ?_); refine smake .i64 3 rfl (N := 25) rfl 25 (.const (.int .i64 256)) (.const (.int .i64 256)) rfl 256 rfl rfl Tryd.underlying25 8 info3' (by omega) (by omega) HS.out ?_; clear HS; intro v7 w7 hs; have HS := Aside0.mk hs; clear hs; have y1 := ((HS.out.box 0 rfl).cell 0 rfl)))
        clear yr e1 e2 y1
        go_loopg [8, 9, 29] cl.length (fun m v8 v9 v29 w' => ∃ (c : Nat) (R : List Int), v29 = .int .i64 c ∧ Aside0 (c + m = cl.length) ∧ Aside0 (R = (List.range c).map (fun c => row.getD (cl.getD c 0).toNat 0) ++ List.replicate (256 - c) 0) ∧ Aside0 (Sep X w w' ([.box g0 31 [.slice Ac cl.length cc, .slice (some an) next.length cn, .slice At tags.length ct], .box g1 27 [.slice none 0 0, .slice none 0 0], .row kInt 3 (.slice A24 tags.length c24) tags, .box g2 27 [.slice A4 N.length c4, .slice A24 tags.length c24], .row kRow 25 (.slice A4 N.length c4) N, .row kInt 3 v7 R] : List PX.Item)))
        case atStart => exact ⟨0, _, rfl, ⟨by omega⟩, ⟨rfl⟩, HS⟩
        case round =>
          clear HS
          obtain ⟨c, R, rfl, HC, HR, HS⟩ := hrel
          cases gk with
          | zero =>
            have hc : c = 256 := by have := HC.out; have := HCL.out; omega
            have e1 : decide ((c : Int) < (cl.length : Int)) = false := decide_eq_false (by have := HC.out; omega)
            have e2 : decide (c < cl.length) = false := decide_eq_false (by have := HC.out; omega)
            have q0 : R = backRow cl row := by rw [HR.out, hc, Nat.sub_self, List.replicate_zero, List.append_nil]; rfl
            rw [← q0] at HN2
            clear HR q0 hc
            obtain ⟨A7, c7, e7⟩ := HS.out.form 5 rfl
            subst e7
            have hs := HS.out.sealRo 5 rfl
            clear HS
            have HS := Aside0.mk hs
            have y2 := ((HS.out.box 3 rfl).cell 0 rfl)
            clear hs
            go_wp2_with (first
              | ((with_reducible refine gate_dst (N := 45) rfl ?_); refine slit kRow 25 ?hg (N := 45) ?hd (xs := [R]) (inner := [.slice A7 R.length c7]) ?hr HS.out ?hp (by simp) ?_; (case hd => rfl); (case hg => rfl); (case hr => first | (go_simp; done) | (go_simp; rfl)); (case hp => exact Reps.one (PK.slice (HS.out.ro 5 rfl)) (Reps.none _ _)); clear HS; intro v30 w30 hs; have HS := Aside0.mk hs; clear hs)
              | ((with_reducible refine gate_builtin (b := .append) (xs := #[.tmp 43, .tmp 45]) rfl ?_); at_builtin; refine sgrow kRow 4 rfl (.tmp 43) (.tmp 45) 24 25 (.slice none 0 0) 24 rfl Tryd.underlying24 info25 rfl (by decide) (by omega) _ _ N [R] rfl rfl HS.out rfl (HS.out.ro 6 rfl) (by have := HPL.out; rw [List.length_singleton]; omega) ?_; clear HS; intro v1 w1 hs; obtain ⟨n1, hn1⟩ : ∃ q, q = N ++ [R] := ⟨_, rfl⟩; rw [← hn1] at hs; have HZn1 := Aside0.mk hn1; clear hn1; obtain ⟨A1, c1, e1⟩ := hs.form 4 rfl; subst e1; have hs := hs.take 5; have fz := (hs.box 3 rfl).open_ 0; have yz := (hs.box 3 rfl).cell 0 rfl; have HS := Aside0.mk hs; clear hs))
            have hs := HS.out.set_box 3 rfl 0 (.slice A1 n1.length c1)
            go_roundg k1
            case measure => omega
            case rel => exact ⟨i + 1, _, n1, by go_num, ⟨by have := HJ.out; omega⟩, ⟨by rw [HZn1.out]; exact HN2.out⟩, ⟨hs⟩⟩
          | succ m1 =>
            have hc : c < cl.length := by have := HC.out; omega
            have hc256 : c < 256 := by have := HCL.out; omega
            have e1 : decide ((c : Int) < (cl.length : Int)) = true := decide_eq_true (by omega)
            have e2 : decide (c < cl.length) = true := decide_eq_true hc
            have hc0 : (0 : Int) ≤ (c : Int) := by omega
            have hc1 : (c : Int) < (cl.length : Int) := by omega
            obtain ⟨ac, cc', ec, yc0⟩ := u8_cell H0.out c hc
            cases ec
            have hk := HCN.out _ (mem_getD cl 0 c hc)
            obtain ⟨k, hk2⟩ : ∃ k : Nat, cl.getD c 0 = (k : Int) := ⟨(cl.getD c 0).toNat, by omega⟩
            rw [hk2] at yc0 hk
            have hkr : k < row.length := by have := HRL.out; omega
            have hk0 : (0 : Int) ≤ (k : Int) := by omega
            have hk1 : (k : Int) < (row.length : Int) := by omega
            obtain ⟨ar, cr, er, yr0⟩ := int_cell HU.out k hkr
            cases er
            have hRL : R.length = 256 := by rw [HR.out]; simp; omega
            obtain ⟨gs, cs, es, ys, fs, hup⟩ := HS.out.int 5 rfl c (by omega)
            subst es
            have hRl1 : (c : Int) < (R.length : Int) := by omega
            have HUP := Aside0.mk hup
            have HSET := Aside0.mk (show R.set c (row.getD k 0) = (List.range (c + 1)).map (fun c => row.getD (cl.getD c 0).toNat 0) ++ List.replicate (256 - (c + 1)) 0 by
              have hl : ((List.range c).map (fun c => row.getD (cl.getD c 0).toNat 0)).length = c := by simp
              rw [HR.out, List.set_append, if_neg (by omega), hl, Nat.sub_self, show 256 - c = (256 - (c + 1)) + 1 by omega, List.replicate_succ, List.set_cons_zero, List.range_succ, List.map_append, List.append_assoc]
              simp only [List.map_cons, List.map_nil, hk2, Int.toNat_natCast, List.singleton_append])
            have yr := pw_cell_below HS.out.below yr0
            have yc := pw_cell_below HS.out.below yc0
            generalize row.getD k 0 = x at *
            clear yr0 yc0 HR hk2 hup hRL hk
            go_wp2_with fail
            have hs := HUP.out x
            go_roundg m1
            case measure => omega
            case rel => exact ⟨c + 1, _, by go_num, ⟨by have := HC.out; omega⟩, HSET, ⟨hs⟩⟩
end Go.Proofs.YtfbfeimildkigaaDoor.P
