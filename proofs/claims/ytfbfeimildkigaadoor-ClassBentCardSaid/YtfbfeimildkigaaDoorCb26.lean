/- Part 26 of the proof: T09, T10, T11, T12, T13, PX9. -/
import Derived.Test.YtfbfeimildkigaaDoorCb25
namespace Go.Proofs.YtfbfeimildkigaaDoor.P
open Go Go.RowKit Go.Proofs.YtfbfeimildkigaaDoorW.PrintWords Go.Proofs.YtfbfeimildkigaaDoorW.PrintLast Go.Proofs.YtfbfeimildkigaaDoorW.PrintMore Go.Proofs.YtfbfeimildkigaaDoor.PX
set_option linter.unusedVariables false
set_option linter.unusedSimpArgs false
set_option maxRecDepth 100000
def wkGo (cl : List Int) (next : List (List Int)) (tags : List Int) : List Int → Nat → Nat → Int × Int → Nat × Int × Int
 | [], _, i, p => (i, p)
 | c :: t, a, i, p => if tGo cl next a c.toNat < 0 then (i + 1, p) else
   wkGo cl next tags t (tGo cl next a c.toNat).toNat (i + 1) (if 0 ≤ tags.getD (tGo cl next a c.toNat).toNat 0 then (((i + 1 : Nat) : Int), tags.getD (tGo cl next a c.toNat).toNat 0) else p)
theorem wk_steps (cl : List Int) (next : List (List Int)) (tags : List Int) : ∀ (s : List Int) (a i : Nat) (p : Int × Int), (wkGo cl next tags s a i p).1 = stGo cl next s a i
 | [], a, i, p => rfl
 | c :: t, a, i, p => by
  rw [wkGo, stGo]
  split
  ·rfl
  ·exact wk_steps cl next tags t _ _ _
theorem back_at {cl : List Int} {next : List (List Int)} {a c : Nat} (ha : a < next.length) (hc : c < 256) : ((next.map (backRow cl)).getD a []).getD c 0 = tGo cl next a c := by
 unfold tGo backRow
 rw [List.getD_eq_getElem?_getD (l := next.map _), List.getElem?_map, List.getElem?_eq_getElem ha, Option.map_some, Option.getD_some, List.getD_eq_getElem?_getD (l := List.map _ _), List.getElem?_map, List.getElem?_range hc, Option.map_some, Option.getD_some, List.getD_eq_getElem?_getD (l := next), List.getElem?_eq_getElem ha, Option.getD_some]
theorem wk_long {cl : List Int} {next : List (List Int)} {tags : List Int} (hl : next.length = tags.length) (ht : ∀ a c, a < tags.length → c < 256 → -1 ≤ tGo cl next a c ∧ tGo cl next a c < (tags.length : Int)) :
  ∀ (s : List Int) (a i : Nat) (p : Int × Int), U8s s → a < tags.length → (wkGo cl next tags s a i p).2 = lgGo (next.map (backRow cl)) tags s a i p
 | [], a, i, p, _, _ => rfl
 | c :: t, a, i, p, hu, ha => by
  have hc := hu c List.mem_cons_self
  have h1 := ht a c.toNat ha (by omega)
  rw [wkGo, lgGo, back_at (by omega) (by omega)]
  split
  ·rfl
  ·exact wk_long hl ht t _ _ _ (fun x hx => hu x (List.mem_cons_of_mem _ hx)) (by omega)
theorem tsound_go {cl : List Int} {next : List (List Int)} {tags : List Int} {n : Nat} (hcl : cl.length = 256) (hcn : ∀ c ∈ cl, 0 ≤ c ∧ c < (n : Int)) (h : TSoundN n next tags) (a c : Nat) (ha : a < tags.length) (hc : c < 256) : -1 ≤ tGo cl next a c ∧ tGo cl next a c < (tags.length : Int) := by
 have h1 := hcn _ (mem_getD cl 0 c (by omega))
 exact (h.2.1 a ha).2.2 _ (by omega)
theorem back_sound {cl : List Int} {next : List (List Int)} {tags : List Int} (hu : U8s cl) (h : TSound cl next tags) : BSound (next.map (backRow cl)) tags := by
 obtain ⟨n, hn, hn256, hcl, hcn, hso⟩ := tsound_head hu h
 refine ⟨⟨hso.1.2.1, hso.1.2.2.1, by rw [List.length_map]; exact hso.1.2.2.2⟩, fun i hi => ?_⟩
 have hin : i < next.length := by have := hso.1.2.2.2; omega
 refine ⟨?_, (hso.2.1 i hi).2.1, fun j hj => ?_⟩
 ·rw [List.getD_eq_getElem?_getD, List.getElem?_map, List.getElem?_eq_getElem hin]; simp [backRow]
 ·rw [back_at hin hj]
  exact tsound_go hcl hcn hso i j hi hj
set_option maxHeartbeats 16000000 in
theorem walk_calls (X : Nat → Prop) (vc vn vt vs : Value) (cl : List Int) (next : List (List Int)) (tags s : List Int) (w : World) (hX : ∀ k, X k → k < w.heap.size)
  (hc : PV kU8 X w vc cl) (hn : PV kRow X w vn next) (ht : PV kInt X w vt tags) (hs : PV kU8 X w vs s) (huc : U8s cl) (hu : U8s s) (hso : TSound cl next tags) :
  Calls Tryd.prog 33 #[.agg #[vc, vn, vt], vs] w fun e w' => e = .returned (.tuple #[.int .i64 ((wkGo cl next tags s 0 0 (0, -1)).1 : Int), .int .i64 (wkGo cl next tags s 0 0 (0, -1)).2.1, .int .i64 (wkGo cl next tags s 0 0 (0, -1)).2.2]) ∧ Below w.heap.size w w' := by
 have H0 := Aside0.mk hc
 have H1 := Aside0.mk hn
 have H2 := Aside0.mk ht
 have H3 := Aside0.mk hs
 have HUC := Aside0.mk huc
 have HU := Aside0.mk hu
 have m0 := hc.max
 have m1 := hn.max
 have m2 := ht.max
 have m3 := hs.max
 obtain ⟨Ac, cc, rfl, _, _⟩ := hc.now
 obtain ⟨An, cn, rfl, _, _⟩ := hn.now
 obtain ⟨At, ct, rfl, _, _⟩ := ht.now
 obtain ⟨As, cs, rfl, _, _⟩ := hs.now
 have HS := Aside0.mk ((Sep.start hX).push_box [.slice Ac cl.length cc, .slice An next.length cn, .slice At tags.length ct] 31)
 have HR2 := Aside0.mk (show wkGo cl next tags (s.drop 0) 0 0 (0, -1) = wkGo cl next tags s 0 0 (0, -1) from rfl)
 obtain ⟨r, hr⟩ : ∃ r, r = wkGo cl next tags s 0 0 (0, -1) := ⟨_, rfl⟩
 rw [← hr] at HR2 ⊢
 obtain ⟨n, hn, hn256, hcl, hcn, hso⟩ := tsound_head huc hso
 have HSN := Aside0.mk hso
 have HCN := Aside0.mk hcn
 have HCL := Aside0.mk hcl
 clear hc hn ht hs hu huc hX hr hcl hcn hso
 go_enter Tryd.func33, Tryd.ntmps33
 go_wp2_with fail
 go_step3
 go_wp2_with fail
 go_step3
 go_wp2_with fail
 obtain ⟨g0, hg0⟩ : ∃ g, g = w.heap.size := ⟨_, rfl⟩
 rw [← hg0] at HS ⊢
 clear hg0
 go_loopg [4, 5, 6, 7, 8, 9, 12] s.length (fun m v4 v5 v6 v7 v8 v9 v12 w' => ∃ (i a : Nat) (p : Int × Int), v4 = .int .i64 i ∧ v5 = .int .i64 p.1 ∧ v6 = .int .i64 p.2 ∧ v7 = .int .i64 a ∧ v12 = .int .i64 i ∧ Aside0 (i + m = s.length) ∧ Aside0 (a < tags.length) ∧ Aside0 (wkGo cl next tags (s.drop i) a i p = r) ∧ Aside0 (Sep X w w' [.box g0 31 [.slice Ac cl.length cc, .slice An next.length cn, .slice At tags.length ct]]))
 case atStart => exact ⟨0, 0, (0, -1), rfl, rfl, rfl, rfl, rfl, ⟨by omega⟩, ⟨by have := HSN.out.1.2.1; omega⟩, HR2, HS⟩
 case round =>
  clear HS HR2
  obtain ⟨i, a, ⟨p1, p2⟩, rfl, rfl, rfl, rfl, rfl, HJ, HA, HR, HS⟩ := hrel
  have y0 := (HS.out.box 0 rfl).cell 0 rfl
  have y1 := (HS.out.box 0 rfl).cell 1 rfl
  have y2 := (HS.out.box 0 rfl).cell 2 rfl
  cases gk with
  | zero =>
   have e1 : decide ((i : Int) < (s.length : Int)) = false := decide_eq_false (by have := HJ.out; omega)
   have e2 : decide (i < s.length) = false := decide_eq_false (by have := HJ.out; omega)
   have HE := Aside0.mk (show (i, p1, p2) = r by have h := HR.out; rwa [List.drop_of_length_le (by have := HJ.out; omega), wkGo] at h)
   go_wp2_with fail
   rw [Exit.noGoto_ret]
   go_ret3
   rw [← HE.out]
   exact ⟨rfl, HS.out.below⟩
  | succ k1 =>
   have hi : i < s.length := by have := HJ.out; omega
   have ha : a < next.length := by have := HA.out; have := HSN.out.1.2.2.2; omega
   have e1 : decide ((i : Int) < (s.length : Int)) = true := decide_eq_true (by omega)
   have e2 : decide (i < s.length) = true := decide_eq_true hi
   have hi0 : (0 : Int) ≤ (i : Int) := by omega
   have hi1 : (i : Int) < (s.length : Int) := by omega
   have ha0 : (0 : Int) ≤ (a : Int) := by omega
   have ha1 : (a : Int) < (next.length : Int) := by omega
   obtain ⟨c, hc, hc2⟩ := u8s_at HU.out i hi
   obtain ⟨as_, cs', es, ys0⟩ := u8_cell H3.out i hi
   cases es
   rw [hc] at ys0
   obtain ⟨ac, cc', ec, yc0⟩ := u8_cell H0.out c (by have := HCL.out; omega)
   cases ec
   have hk := HCN.out _ (mem_getD cl 0 c (by have := HCL.out; omega))
   obtain ⟨k, hk2⟩ : ∃ k : Nat, cl.getD c 0 = (k : Int) := ⟨(cl.getD c 0).toNat, by omega⟩
   rw [hk2] at yc0 hk
   have HR3 := HR.out
   rw [drop_at s 0 i hi, hc, wkGo, show ((c : Int).toNat) = c from rfl, tGo, hk2, show ((k : Int).toNat) = k from rfl] at HR3
   obtain ⟨an, cn', u, en, hun, yn0⟩ := H1.out.row a ha
   cases en
   have HBR := (HSN.out.2.1 a HA.out)
   have hl : (next.getD a []).length = n := HBR.1
   have hx := HBR.2.2 k (by omega)
   generalize next.getD a [] = row at *
   obtain ⟨Au, cu, rfl, _, _⟩ := hun.now
   obtain ⟨ar, cr, er, yr0⟩ := int_cell hun k (by omega)
   cases er
   obtain ⟨x, hx0⟩ : ∃ x, x = row.getD k 0 := ⟨_, rfl⟩
   rw [← hx0] at HR3 hx yr0
   have hc0 : (0 : Int) ≤ (c : Int) := by omega
   have hc1 : (c : Int) < (cl.length : Int) := by have := HCL.out; omega
   have hk0 : (0 : Int) ≤ (k : Int) := by omega
   have hk1 : (k : Int) < (row.length : Int) := by omega
   have ys := pw_cell_below HS.out.below ys0
   have yn := pw_cell_below HS.out.below yn0
   have yr := pw_cell_below HS.out.below yr0
   have yc := pw_cell_below HS.out.below yc0
   have HX := Aside0.mk hx
   have HR4 := Aside0.mk HR3
   clear HR3 hx hx0 HBR hun ys0 yn0 yr0 yc0 HR hl hc hk2 hk
   rcases Int.lt_or_le x 0 with h1 | h1
   case inl =>
    obtain rfl : x = -1 := by have := HX.out; omega
    have HE := Aside0.mk (show (i + 1, p1, p2) = r by have h := HR4.out; rwa [if_pos h1] at h)
    go_wp2_with fail
    go_quiet (fail)
    have HS2 := Aside0.mk (HS.out.drewN nq)
    go_wp2_with fail
    rw [Exit.noGoto_ret]
    go_ret3
    rw [← HE.out]
    exact ⟨by go_num, HS2.out.below⟩
   case inr =>
    have d1 : (x == -1) = false := beq_eq_false_iff_ne.mpr (by omega)
    obtain ⟨b, hb⟩ : ∃ b : Nat, x = (b : Int) := ⟨x.toNat, by omega⟩
    subst hb
    have hb : b < tags.length := by have := HX.out; omega
    have hb0 : (0 : Int) ≤ (b : Int) := by omega
    have hb1 : (b : Int) < (tags.length : Int) := by omega
    have HR5 := HR4.out
    rw [if_neg (by omega), show ((b : Int).toNat) = b from rfl] at HR5
    have HB5 := Aside0.mk hb
    obtain ⟨at_, ct', et, yt0⟩ := int_cell H2.out b hb
    cases et
    have yt := pw_cell_below HS.out.below yt0
    clear HR4 yt0
    generalize tags.getD b 0 = tg at *
    rcases Int.lt_or_le tg 0 with h2 | h2
    case inl =>
     have d2 : decide (tg ≥ 0) = false := decide_eq_false (by omega)
     have d3 : decide (0 ≤ tg) = false := decide_eq_false (by omega)
     rw [if_neg (by omega)] at HR5
     have HR6 := Aside0.mk HR5
     clear HR5
     go_wp2_with fail
     go_quiet (fail)
     have HS2 := Aside0.mk (HS.out.drewN nq)
     go_wp2_with fail
     go_roundg k1
     case measure => omega
     case rel => exact ⟨i + 1, b, (p1, p2), by go_num, rfl, rfl, rfl, by go_num, ⟨by have := HJ.out; omega⟩, HB5, HR6, HS2⟩
    case inr =>
     have d2 : decide (tg ≥ 0) = true := decide_eq_true (by omega)
     have d3 : decide (0 ≤ tg) = true := decide_eq_true (by omega)
     rw [if_pos (by omega)] at HR5
     have HR6 := Aside0.mk HR5
     clear HR5
     go_wp2_with fail
     go_quiet (fail)
     have HS2 := Aside0.mk (HS.out.drewN nq)
     go_wp2_with fail
     go_quiet (fail)
     go_wp2_with fail
     go_roundg k1
     case measure => omega
     case rel => exact ⟨i + 1, b, (((i + 1 : Nat) : Int), tg), by go_num, by go_num, rfl, rfl, by go_num, ⟨by have := HJ.out; omega⟩, HB5, HR6, ⟨HS.out.drewN _⟩⟩
theorem tsound_wk {cl : List Int} {next : List (List Int)} {tags s : List Int} (huc : U8s cl) (hu : U8s s) (h : TSound cl next tags) : wkGo cl next tags s 0 0 (0, -1) = (steps14 cl next tags s, long14 cl next tags s) := by
 obtain ⟨n, hn, hn256, hcl, hcn, hso⟩ := tsound_head huc h
 have h1 := wk_steps cl next tags s 0 0 (0, -1)
 have h2 := wk_long hso.1.2.2.2 (tsound_go hcl hcn hso) s 0 0 (0, -1) hu (by have := hso.1.2.1; omega)
 rw [steps14, if_pos h, long14, if_pos h, long13, if_pos (back_sound huc h), ← h1, ← h2]
set_option maxHeartbeats 16000000 in
theorem clong_calls (X : Nat → Prop) (vc vn vt vs : Value) (cl : List Int) (next : List (List Int)) (tags s : List Int) (w : World) (hX : ∀ k, X k → k < w.heap.size)
  (hc : PV kU8 X w vc cl) (hn : PV kRow X w vn next) (ht : PV kInt X w vt tags) (hs : PV kU8 X w vs s) (huc : U8s cl) (hu : U8s s) :
  Calls Tryd.prog 17 #[.agg #[vc, vn, vt], vs] w fun e w' => e = .returned (.tuple #[.int .i64 (long14 cl next tags s).1, .int .i64 (long14 cl next tags s).2]) ∧ Below w.heap.size w w' := by
 have H0 := Aside0.mk hc
 have H1 := Aside0.mk hn
 have H2 := Aside0.mk ht
 have H3 := Aside0.mk hs
 have HUC := Aside0.mk huc
 have HU := Aside0.mk hu
 have m0 := hc.max
 have m1 := hn.max
 have m2 := ht.max
 have m3 := hs.max
 obtain ⟨Ac, cc, rfl, _, _⟩ := hc.now
 obtain ⟨An, cn, rfl, _, _⟩ := hn.now
 obtain ⟨At, ct, rfl, _, _⟩ := ht.now
 obtain ⟨As, cs, rfl, _, _⟩ := hs.now
 have HS := Aside0.mk ((Sep.start hX).push_box [.slice Ac cl.length cc, .slice An next.length cn, .slice At tags.length ct] 31)
 obtain ⟨q, hq⟩ : ∃ q, q = decide (TSound cl next tags) := ⟨_, rfl⟩
 have HQ := Aside0.mk hq.symm
 clear hc hn ht hs hu huc hX hq
 cases q
 case false =>
  have HE := Aside0.mk (show long14 cl next tags s = (0, -1) by rw [long14, if_neg (of_decide_eq_false HQ.out)])
  go_enter Tryd.func17, Tryd.ntmps17
  go_wp2_with (first
   | (go_at_call 15; (with_reducible refine (csound_calls _ _ _ _ cl next tags _ HS.out.lt (HS.out.arg H0.out) (HS.out.arg H1.out) (HS.out.arg H2.out) HUC.out).mono ?_); rintro ee w5 ⟨rfl, hb⟩; rw [HQ.out]; have hs := HS.out.call hb; clear hb; clear HS; have HS := Aside0.mk hs; clear hs))
  go_ret2
  rw [HE.out]
  exact ⟨rfl, HS.out.below⟩
 case true =>
  have HW := Aside0.mk (tsound_wk HUC.out HU.out (of_decide_eq_true HQ.out))
  have y0 := ((HS.out.box 0 rfl).cell 0 rfl)
  go_enter Tryd.func17, Tryd.ntmps17
  go_wp2_with (first
   | (go_at_call 15; (with_reducible refine (csound_calls _ _ _ _ cl next tags _ HS.out.lt (HS.out.arg H0.out) (HS.out.arg H1.out) (HS.out.arg H2.out) HUC.out).mono ?_); rintro ee w5 ⟨rfl, hb⟩; rw [HQ.out]; have hs := HS.out.call hb; clear hb; have z0 := ((hs.box 0 rfl).cell 0 rfl); have z1 := ((hs.box 0 rfl).cell 1 rfl); have z2 := ((hs.box 0 rfl).cell 2 rfl); clear HS; have HS := Aside0.mk hs; clear hs)
   | (go_at_call 33; (with_reducible refine (walk_calls _ _ _ _ _ cl next tags s _ HS.out.lt (HS.out.arg H0.out) (HS.out.arg H1.out) (HS.out.arg H2.out) (HS.out.arg H3.out) HUC.out HU.out (of_decide_eq_true HQ.out)).mono ?_); rintro ee w6 ⟨rfl, hb⟩; rw [HW.out]; have hs := HS.out.call hb; clear hb; clear HS; have HS := Aside0.mk hs; clear hs))
  go_ret2
  exact ⟨rfl, HS.out.below⟩
set_option maxHeartbeats 16000000 in
theorem csteps_calls (X : Nat → Prop) (vc vn vt vs : Value) (cl : List Int) (next : List (List Int)) (tags s : List Int) (w : World) (hX : ∀ k, X k → k < w.heap.size)
  (hc : PV kU8 X w vc cl) (hn : PV kRow X w vn next) (ht : PV kInt X w vt tags) (hs : PV kU8 X w vs s) (huc : U8s cl) (hu : U8s s) :
  Calls Tryd.prog 20 #[.agg #[vc, vn, vt], vs] w fun e w' => e = .returned (.int .i64 (steps14 cl next tags s)) ∧ Below w.heap.size w w' := by
 have H0 := Aside0.mk hc
 have H1 := Aside0.mk hn
 have H2 := Aside0.mk ht
 have H3 := Aside0.mk hs
 have HUC := Aside0.mk huc
 have HU := Aside0.mk hu
 have m0 := hc.max
 have m1 := hn.max
 have m2 := ht.max
 have m3 := hs.max
 obtain ⟨Ac, cc, rfl, _, _⟩ := hc.now
 obtain ⟨An, cn, rfl, _, _⟩ := hn.now
 obtain ⟨At, ct, rfl, _, _⟩ := ht.now
 obtain ⟨As, cs, rfl, _, _⟩ := hs.now
 have HS := Aside0.mk ((Sep.start hX).push_box [.slice Ac cl.length cc, .slice An next.length cn, .slice At tags.length ct] 31)
 obtain ⟨q, hq⟩ : ∃ q, q = decide (TSound cl next tags) := ⟨_, rfl⟩
 have HQ := Aside0.mk hq.symm
 clear hc hn ht hs hu huc hX hq
 cases q
 case false =>
  have HE := Aside0.mk (show steps14 cl next tags s = 0 by rw [steps14, if_neg (of_decide_eq_false HQ.out)])
  go_enter Tryd.func20, Tryd.ntmps20
  go_wp2_with (first
   | (go_at_call 15; (with_reducible refine (csound_calls _ _ _ _ cl next tags _ HS.out.lt (HS.out.arg H0.out) (HS.out.arg H1.out) (HS.out.arg H2.out) HUC.out).mono ?_); rintro ee w5 ⟨rfl, hb⟩; rw [HQ.out]; have hs := HS.out.call hb; clear hb; clear HS; have HS := Aside0.mk hs; clear hs))
  go_ret
  rw [HE.out]
  exact ⟨rfl, HS.out.below⟩
 case true =>
  have HW := Aside0.mk (tsound_wk HUC.out HU.out (of_decide_eq_true HQ.out))
  go_enter Tryd.func20, Tryd.ntmps20
  go_wp2_with (first
   | (go_at_call 15; (with_reducible refine (csound_calls _ _ _ _ cl next tags _ HS.out.lt (HS.out.arg H0.out) (HS.out.arg H1.out) (HS.out.arg H2.out) HUC.out).mono ?_); rintro ee w5 ⟨rfl, hb⟩; rw [HQ.out]; have hs := HS.out.call hb; clear hb; have z0 := ((hs.box 0 rfl).cell 0 rfl); have z1 := ((hs.box 0 rfl).cell 1 rfl); have z2 := ((hs.box 0 rfl).cell 2 rfl); clear HS; have HS := Aside0.mk hs; clear hs)
   | (go_at_call 33; (with_reducible refine (walk_calls _ _ _ _ _ cl next tags s _ HS.out.lt (HS.out.arg H0.out) (HS.out.arg H1.out) (HS.out.arg H2.out) (HS.out.arg H3.out) HUC.out HU.out (of_decide_eq_true HQ.out)).mono ?_); rintro ee w6 ⟨rfl, hb⟩; rw [HW.out]; have hs := HS.out.call hb; clear hb; clear HS; have HS := Aside0.mk hs; clear hs))
  go_ret
  exact ⟨rfl, HS.out.below⟩
end Go.Proofs.YtfbfeimildkigaaDoor.P
namespace Go.Proofs.YtfbfeimildkigaaDoor.P
open Go Go.RowKit Go.Proofs.YtfbfeimildkigaaDoorW.PrintWords Go.Proofs.YtfbfeimildkigaaDoorW.PrintLast Go.Proofs.YtfbfeimildkigaaDoorW.PrintMore Go.Proofs.YtfbfeimildkigaaDoor.PX
set_option linter.unusedVariables false
set_option linter.unusedSimpArgs false
set_option maxRecDepth 100000
set_option maxHeartbeats 16000000 in
theorem cback_calls (X : Nat → Prop) (vc vn vt : Value) (cl : List Int) (next : List (List Int)) (tags : List Int) (w : World) (hX : ∀ k, X k → k < w.heap.size)
  (hc : PV kU8 X w vc cl) (hn : PV kRow X w vn next) (ht : PV kInt X w vt tags) (huc : U8s cl) :
  Calls Tryd.prog 11 #[.agg #[vc, vn, vt]] w fun e w' => ∃ v0 v1, e = .returned (.tuple #[.agg #[v0, v1], .int .u16 (back14 cl next tags).2]) ∧ PV kRow X w' v0 (back14 cl next tags).1.1 ∧ PV kInt X w' v1 (back14 cl next tags).1.2 ∧ Below w.heap.size w w' := by
 have H0 := Aside0.mk hc
 have H1 := Aside0.mk hn
 have H2 := Aside0.mk ht
 have HUC := Aside0.mk huc
 have m0 := hc.max
 have m1 := hn.max
 have m2 := ht.max
 obtain ⟨Ac, cc, rfl, _, _⟩ := hc.now
 obtain ⟨An, cn, rfl, _, _⟩ := hn.now
 obtain ⟨At, ct, rfl, _, _⟩ := ht.now
 have HS := Aside0.mk (((Sep.start hX).push_box [.slice Ac cl.length cc, .slice An next.length cn, .slice At tags.length ct] 31).push_box' [.slice none 0 0, .slice none 0 0] 27 (w.heap.size + 1) (by simp))
 obtain ⟨q, hq⟩ : ∃ q, q = decide (TSound cl next tags) := ⟨_, rfl⟩
 have HQ := Aside0.mk hq.symm
 obtain ⟨r, hr⟩ : ∃ r, r = back14 cl next tags := ⟨_, rfl⟩
 rw [← hr]
 have HR := Aside0.mk (show r = if TSound cl next tags then ((next.map (backRow cl), tags), 0) else (([], []), 1) from hr)
 clear hc hn ht huc hX hq hr
 go_enter Tryd.func11, Tryd.ntmps11
 go_upto_if 12 with (first
  | (go_at_call 15; (with_reducible refine (csound_calls _ _ _ _ cl next tags _ HS.out.lt (HS.out.arg H0.out) (HS.out.arg H1.out) (HS.out.arg H2.out) HUC.out).mono ?_); rintro ee w5 ⟨rfl, hb⟩; rw [HQ.out]; have hs := HS.out.call hb; clear hb; clear HS; have HS := Aside0.mk hs; clear hs))
 obtain ⟨g1, hg1⟩ : ∃ g, g = w.heap.size + 1 := ⟨_, rfl⟩
 obtain ⟨g0, hg0⟩ : ∃ g, g = w.heap.size := ⟨_, rfl⟩
 rw [← hg1, ← hg0] at HS ⊢
 clear hg0 hg1
 have x0 := ((HS.out.box 1 rfl).cell 0 rfl)
 have x1 := ((HS.out.box 1 rfl).cell 1 rfl)
 have f0 := (HS.out.box 1 rfl).open_ 0
 have f1 := (HS.out.box 1 rfl).open_ 1
 cases q
 case false =>
  have HE := Aside0.mk (show r = (([], []), 1) by rw [HR.out, if_neg (of_decide_eq_false HQ.out)])
  go_wp2_with fail
  have HSF := Aside0.mk ((HS.out.set_box 1 rfl 0 (.slice none 0 0)).set_box 1 rfl 1 (.slice none 0 0))
  refine bodyPost_ret (results_ct rfl _ _ g1 27 #[.slice none 0 0, .slice none 0 0] (0, 0) _ rfl (HSF.out.box 1 rfl) Tryd.underlying27 rfl (by kernel_rfl)) rfl ?_
  rw [HE.out]
  exact ⟨_, _, rfl, PV.nil _ _ _, PV.nil _ _ _, HSF.out.below⟩
 case true =>
  have HSO := Aside0.mk (of_decide_eq_true HQ.out)
  have HR2 := Aside0.mk (show r = ((next.map (backRow cl), tags), 0) by rw [HR.out, if_pos HSO.out])
  obtain ⟨n, hn, hn256, hcl, hcn, hso⟩ := tsound_head HUC.out HSO.out
  have HSN := Aside0.mk hso
  have HCN := Aside0.mk hcn
  have HCL := Aside0.mk hcl
  have HNT := Aside0.mk (show next.length = tags.length ∧ tags.length ≤ 40000 from ⟨hso.1.2.2.2, hso.1.2.2.1⟩)
  have y2 := ((HS.out.box 0 rfl).cell 2 rfl)
  clear HR hn hcl hcn hso HSO HQ x0 x1 f0 f1
  go_wp2_with (first
   | (go_at_call 26; (with_reducible refine (clone_calls _ _ tags _ HS.out.lt (HS.out.arg H2.out) (by have := HNT.out; omega)).mono ?_); rintro ee w6 ⟨v24, rfl, ho, hb⟩; obtain ⟨A24, c24, rfl, _⟩ := ho.now; have hs := (HS.out.push_row hb ho).push_box [.slice none 0 0, .slice A24 tags.length c24] 27; have y1 := ((hs.box 0 rfl).cell 1 rfl); clear hb ho y2; clear HS; have HS := Aside0.mk hs; clear hs))
  obtain ⟨g2, hg2⟩ : ∃ g, g = w6.heap.size := ⟨_, rfl⟩
  rw [← hg2] at HS ⊢
  clear hg2 y1
  go_loopg [6, 7, 8, 9, 21] next.length (fun m v6 v7 v8 v9 v21 w' => ∃ (i : Nat) (vN : Value) (N : List (List Int)), v21 = .int .i64 i ∧ Aside0 (i + m = next.length) ∧ Aside0 (N = (next.take i).map (backRow cl)) ∧ Aside0 (Sep X w w' ([.box g0 31 [.slice Ac cl.length cc, .slice An next.length cn, .slice At tags.length ct], .box g1 27 [.slice none 0 0, .slice none 0 0], .row kInt 3 (.slice A24 tags.length c24) tags, .box g2 27 [vN, .slice A24 tags.length c24], .row kRow 25 vN N] : List PX.Item)))
  case atStart => exact ⟨0, _, [], rfl, ⟨by omega⟩, ⟨rfl⟩, ⟨HS.out.push_nil kRow 25⟩⟩
  case round =>
   clear HS
   obtain ⟨i, vN, N, rfl, HJ, HN, HS⟩ := hrel
   obtain ⟨A4, c4, e4⟩ := HS.out.form 4 rfl
   subst e4
   cases gk with
   | zero =>
    have hi : i = next.length := by have := HJ.out; omega
    have e1 : decide ((i : Int) < (next.length : Int)) = false := decide_eq_false (by omega)
    have e2 : decide (i < next.length) = false := decide_eq_false (by omega)
    have HRR := Aside0.mk (show r = ((N, tags), 0) by rw [HR2.out, HN.out, hi, List.take_length])
    clear HN HJ hi HR2
    have z0 := ((HS.out.box 3 rfl).cell 0 rfl)
    have z1 := ((HS.out.box 3 rfl).cell 1 rfl)
    have x0 := ((HS.out.box 1 rfl).cell 0 rfl)
    have x1 := ((HS.out.box 1 rfl).cell 1 rfl)
    have f0 := (HS.out.box 1 rfl).open_ 0
    have f1 := (HS.out.box 1 rfl).open_ 1
    go_wp2_with fail
    have HSF := Aside0.mk ((HS.out.set_box 1 rfl 0 (.slice A4 N.length c4)).set_box 1 rfl 1 (.slice A24 tags.length c24))
    refine bodyPost_ret (results_ct rfl _ _ g1 27 #[.slice A4 N.length c4, .slice A24 tags.length c24] (0, 0) _ rfl (HSF.out.box 1 rfl) Tryd.underlying27 rfl (by kernel_rfl)) rfl ?_
    rw [HRR.out]
    exact ⟨_, _, rfl, HSF.out.res_row 4 rfl, HSF.out.res_row 2 rfl, HSF.out.below⟩
   | succ k1 =>
    have hi : i < next.length := by have := HJ.out; omega
    have hit : i < tags.length := by have := HNT.out; omega
    have e1 : decide ((i : Int) < (next.length : Int)) = true := decide_eq_true (by omega)
    have e2 : decide (i < next.length) = true := decide_eq_true hi
    have hi0 : (0 : Int) ≤ (i : Int) := by omega
    have hi1 : (i : Int) < (next.length : Int) := by omega
    obtain ⟨an, cn', u, en, hu, yn⟩ := H1.out.row i hi
    cases en
    obtain ⟨Au, cu, rfl, _, _⟩ := hu.now
    have HU := Aside0.mk hu
    have yr := pw_cell_below HS.out.below yn
    have HRL := Aside0.mk (show (next.getD i []).length = n from (HSN.out.2.1 i hit).1)
    have HN2 := Aside0.mk (show N ++ [backRow cl (next.getD i [])] = (next.take (i + 1)).map (backRow cl) by rw [take_at next [] i hi, List.map_append, HN.out]; rfl)
    have HPL := Aside0.mk (show N.length + 1 ≤ 1000000 by rw [HN.out]; have := HNT.out; simp; omega)
    generalize next.getD i [] = row at *
    clear hu yn HN
    go_wp2_with (first
     | ((with_reducible refine gate_dst (N := 25) rfl ?_); refine smake .i64 3 rfl (N := 25) rfl 25 (.const (.int .i64 256)) (.const (.int .i64 256)) rfl 256 rfl rfl Tryd.underlying25 8 info3' (by omega) (by omega) HS.out ?_; clear HS; intro v7 w7 hs; have HS := Aside0.mk hs; clear hs; have y1 := ((HS.out.box 0 rfl).cell 0 rfl)))
    clear yr e1 e2 y1
    go_loopg [8, 9, 29] cl.length (fun m v8 v9 v29 w' => ∃ (c : Nat) (R : List Int), v29 = .int .i64 c ∧ Aside0 (c + m = cl.length) ∧ Aside0 (R = (List.range c).map (fun c => row.getD (cl.getD c 0).toNat 0) ++ List.replicate (256 - c) 0) ∧ Aside0 (Sep X w w' ([.box g0 31 [.slice Ac cl.length cc, .slice (some an) next.length cn, .slice At tags.length ct], .box g1 27 [.slice none 0 0, .slice none 0 0], .row kInt 3 (.slice A24 tags.length c24) tags, .box g2 27 [.slice A4 N.length c4, .slice A24 tags.length c24], .row kRow 25 (.slice A4 N.length c4) N, .row kInt 3 v7 R] : List PX.Item)))
    case atStart => exact ⟨0, _, rfl, ⟨by omega⟩, ⟨rfl⟩, HS⟩
    case round =>
     clear HS
     obtain ⟨c, R, rfl, HC, HR, HS⟩ := hrel
     cases gk with
     | zero =>
      have hc : c = 256 := by have := HC.out; have := HCL.out; omega
      have e1 : decide ((c : Int) < (cl.length : Int)) = false := decide_eq_false (by have := HC.out; omega)
      have e2 : decide (c < cl.length) = false := decide_eq_false (by have := HC.out; omega)
      have q0 : R = backRow cl row := by rw [HR.out, hc, Nat.sub_self, List.replicate_zero, List.append_nil]; rfl
      rw [← q0] at HN2
      clear HR q0 hc
      obtain ⟨A7, c7, e7⟩ := HS.out.form 5 rfl
      subst e7
      have hs := HS.out.sealRo 5 rfl
      clear HS
      have HS := Aside0.mk hs
      have y2 := ((HS.out.box 3 rfl).cell 0 rfl)
      clear hs
      go_wp2_with (first
       | ((with_reducible refine gate_dst (N := 45) rfl ?_); refine slit kRow 25 ?hg (N := 45) ?hd (xs := [R]) (inner := [.slice A7 R.length c7]) ?hr HS.out ?hp (by simp) ?_; (case hd => rfl); (case hg => rfl); (case hr => first | (go_simp; done) | (go_simp; rfl)); (case hp => exact Reps.one (PK.slice (HS.out.ro 5 rfl)) (Reps.none _ _)); clear HS; intro v30 w30 hs; have HS := Aside0.mk hs; clear hs)
       | ((with_reducible refine gate_builtin (b := .append) (xs := #[.tmp 43, .tmp 45]) rfl ?_); at_builtin; refine sgrow kRow 4 rfl (.tmp 43) (.tmp 45) 24 25 (.slice none 0 0) 24 rfl Tryd.underlying24 info25 rfl (by decide) (by omega) _ _ N [R] rfl rfl HS.out rfl (HS.out.ro 6 rfl) (by have := HPL.out; rw [List.length_singleton]; omega) ?_; clear HS; intro v1 w1 hs; obtain ⟨n1, hn1⟩ : ∃ q, q = N ++ [R] := ⟨_, rfl⟩; rw [← hn1] at hs; have HZn1 := Aside0.mk hn1; clear hn1; obtain ⟨A1, c1, e1⟩ := hs.form 4 rfl; subst e1; have hs := hs.take 5; have fz := (hs.box 3 rfl).open_ 0; have yz := (hs.box 3 rfl).cell 0 rfl; have HS := Aside0.mk hs; clear hs))
      have hs := HS.out.set_box 3 rfl 0 (.slice A1 n1.length c1)
      go_roundg k1
      case measure => omega
      case rel => exact ⟨i + 1, _, n1, by go_num, ⟨by have := HJ.out; omega⟩, ⟨by rw [HZn1.out]; exact HN2.out⟩, ⟨hs⟩⟩
     | succ m1 =>
      have hc : c < cl.length := by have := HC.out; omega
      have hc256 : c < 256 := by have := HCL.out; omega
      have e1 : decide ((c : Int) < (cl.length : Int)) = true := decide_eq_true (by omega)
      have e2 : decide (c < cl.length) = true := decide_eq_true hc
      have hc0 : (0 : Int) ≤ (c : Int) := by omega
      have hc1 : (c : Int) < (cl.length : Int) := by omega
      obtain ⟨ac, cc', ec, yc0⟩ := u8_cell H0.out c hc
      cases ec
      have hk := HCN.out _ (mem_getD cl 0 c hc)
      obtain ⟨k, hk2⟩ : ∃ k : Nat, cl.getD c 0 = (k : Int) := ⟨(cl.getD c 0).toNat, by omega⟩
      rw [hk2] at yc0 hk
      have hkr : k < row.length := by have := HRL.out; omega
      have hk0 : (0 : Int) ≤ (k : Int) := by omega
      have hk1 : (k : Int) < (row.length : Int) := by omega
      obtain ⟨ar, cr, er, yr0⟩ := int_cell HU.out k hkr
      cases er
      have hRL : R.length = 256 := by rw [HR.out]; simp; omega
      obtain ⟨gs, cs, es, ys, fs, hup⟩ := HS.out.int 5 rfl c (by omega)
      subst es
      have hRl1 : (c : Int) < (R.length : Int) := by omega
      have HUP := Aside0.mk hup
      have HSET := Aside0.mk (show R.set c (row.getD k 0) = (List.range (c + 1)).map (fun c => row.getD (cl.getD c 0).toNat 0) ++ List.replicate (256 - (c + 1)) 0 by
       have hl : ((List.range c).map (fun c => row.getD (cl.getD c 0).toNat 0)).length = c := by simp
       rw [HR.out, List.set_append, if_neg (by omega), hl, Nat.sub_self, show 256 - c = (256 - (c + 1)) + 1 by omega, List.replicate_succ, List.set_cons_zero, List.range_succ, List.map_append, List.append_assoc]
       simp only [List.map_cons, List.map_nil, hk2, Int.toNat_natCast, List.singleton_append])
      have yr := pw_cell_below HS.out.below yr0
      have yc := pw_cell_below HS.out.below yc0
      generalize row.getD k 0 = x at *
      clear yr0 yc0 HR hk2 hup hRL hk
      go_wp2_with fail
      have hs := HUP.out x
      go_roundg m1
      case measure => omega
      case rel => exact ⟨c + 1, _, by go_num, ⟨by have := HC.out; omega⟩, HSET, ⟨hs⟩⟩
end Go.Proofs.YtfbfeimildkigaaDoor.P
namespace Go.Proofs.YtfbfeimildkigaaDoor.P
open Go Go.RowKit Go.Proofs.YtfbfeimildkigaaDoorW.PrintWords Go.Proofs.YtfbfeimildkigaaDoor.PX
set_option linter.unusedVariables false
set_option maxRecDepth 100000
def kP : List (List Sp) := [[⟨97, 97⟩]]
def kN0 : List (List Int) := [[1], [-1]]
def kT : List Int := [-1, 0]
def kD : DfaS := ⟨kP, kN0, kT⟩
def kN : List (List Int) := [(List.range 256).map (fun c => if c = 97 then 1 else -1), List.replicate 256 (-1)]
def kC : List Int := (List.range 256).map (fun c => if c = 97 then 1 else 0)
def kTN : List (List Int) := [[-1, 1], [-1, -1]]
theorem k_least : leastL kP kN0 kT = kD := by
 have h1 : (leastL kP kN0 kT).parts = kP := by decide +kernel
 have h2 : (leastL kP kN0 kT).next = kN0 := by decide +kernel
 have h3 : (leastL kP kN0 kT).tags = kT := by decide +kernel
 cases h : leastL kP kN0 kT
 rw [h] at h1 h2 h3
 cases h1; cases h2; cases h3
 rfl
theorem k_part : ∀ p ∈ kP, (Sm p ∧ p.length ≤ 10000) ∧ ∀ s ∈ makeL p [] 2, SpOk s := by
 intro p hp
 obtain rfl : p = [⟨97, 97⟩] := by simpa [kP] using hp
 refine ⟨⟨fun s hs => ?_, by decide⟩, ?_⟩
 ·obtain rfl : s = ⟨97, 97⟩ := by simpa using hs
  decide
 ·have h : makeL [⟨97, 97⟩] [] 2 = [⟨97, 97⟩] := by decide +kernel
  rw [h]
  intro s hs
  obtain rfl : s = ⟨97, 97⟩ := by simpa using hs
  unfold SpOk
  decide
theorem uni_ok (parts : List (List Sp)) (hl : parts.length ≤ 2) (h : ∀ a b : Int, 0 ≤ a → a < (parts.length : Int) → 0 ≤ b → b < (parts.length : Int) → ((uni parts [a]).length ≤ 10000 ∧ (makeL (uni parts [a]) [] 2).length ≠ 0) ∧ (uni parts [a, b]).length ≤ 10000 ∧ (makeL (uni parts [a, b]) [] 2).length ≠ 0) : UniOk parts := by
 intro g h1 h2 h3
 rcases g with _ | ⟨a, _ | ⟨b, _ | ⟨c, t⟩⟩⟩
 ·simp at h1
 ·have ha := h3 a (by simp)
  exact (h a a ha.1 ha.2 ha.1 ha.2).1
 ·have ha := h3 a (by simp)
  have hb := h3 b (by simp)
  exact (h a b ha.1 ha.2 hb.1 hb.2).2
 ·simp at h2; omega
theorem k_uni1 : UniOk (bareP kP) := by
 have e : bareP kP = kP := by decide +kernel
 rw [e]
 refine uni_ok kP (by decide) (fun a b ha ha1 hb hb1 => ?_)
 have h1 : kP.length = 1 := rfl
 rw [h1] at ha1 hb1
 obtain rfl : a = 0 := by omega
 obtain rfl : b = 0 := by omega
 decide +kernel
def kFs : List (List Sp) := [[⟨0, 0⟩], [⟨97, 97⟩]]
theorem k_uni2 : UniOk (bareP (asL (raw13 kD 5).next (raw13 kD 5).tags (classesL (raw13 kD 5).next).1).parts) := by
 have e : bareP (asL (raw13 kD 5).next (raw13 kD 5).tags (classesL (raw13 kD 5).next).1).parts = kFs := by decide +kernel
 rw [e]
 refine uni_ok kFs (by decide) (fun a b ha ha1 hb hb1 => ?_)
 have h1 : kFs.length = 2 := rfl
 rw [h1] at ha1 hb1
 rcases (show a = 0 ∨ a = 1 by omega) with rfl | rfl <;> rcases (show b = 0 ∨ b = 1 by omega) with rfl | rfl <;> decide +kernel
def kl0 : List Pl := [⟨0, []⟩]
def kl1 : List Pl := [⟨0, []⟩, ⟨1, []⟩]
def kK (l : List Pl) : Prop := l = kl0 ∨ l = kl1
def kRows : List (List (List Rg)) := [[[⟨97, 97⟩]]]
theorem k_rows : kD.parts.map of03 = kRows := by decide +kernel
theorem k_ways0 : waysAt kN0 kRows ⟨0, []⟩ = [⟨[⟨97, 97⟩], 1⟩] := by decide +kernel
theorem k_ways1 : waysAt kN0 kRows ⟨1, []⟩ = [] := by decide +kernel
theorem k_step0 (c : Int) : stepL c [⟨[⟨97, 97⟩], 1⟩] = if c = 97 then (⟨1, []⟩, true) else (⟨-1, []⟩, false) := by
 unfold stepL
 rw [stepGo]
 by_cases h : c = 97
 ·subst h
  decide +kernel
 ·rw [if_pos (by show c < 97 ∨ 97 < c; omega), if_neg h]
  rfl
theorem k_step1 (c : Int) : stepL c [] = (⟨-1, []⟩, false) := rfl
theorem k_mem {l : List Pl} (h : kK l) {p : Pl} (hp : p ∈ l) : p = ⟨0, []⟩ ∨ (p = ⟨1, []⟩ ∧ l = kl1) := by
 rcases h with rfl | rfl
 ·exact .inl (by simpa [kl0] using hp)
 ·rcases (by simpa [kl1] using hp : p = ⟨0, []⟩ ∨ p = ⟨1, []⟩) with h | h
  ·exact .inl h
  ·exact .inr ⟨h, rfl⟩
theorem k_raw : RawOk kN0 kRows 5 kK := by
 refine ⟨.inl rfl, ?_, ?_, ?_, ?_, ?_⟩
 ·rintro l (rfl | rfl) <;> decide
 ·intro l hl p hp
  rcases k_mem hl hp with rfl | ⟨rfl, _⟩ <;> decide
 ·intro l hl p hp y hy
  rcases k_mem hl hp with rfl | ⟨rfl, _⟩
  ·rw [k_ways0] at hy
   obtain rfl : y = ⟨[⟨97, 97⟩], 1⟩ := by simpa using hy
   decide
  ·rw [k_ways1] at hy
   cases hy
 ·intro l hl p hp
  rcases k_mem hl hp with rfl | ⟨rfl, _⟩
  ·rw [k_ways0]; decide
  ·rw [k_ways1]; decide
 ·intro l hl p hp c h0 h1 hs hn
  rcases k_mem hl hp with rfl | ⟨rfl, _⟩
  ·rw [k_ways0, k_step0] at hs hn ⊢
   by_cases h : c = 97
   ·rw [if_pos h] at hn ⊢
    rcases hl with rfl | rfl
    ·exact .inr rfl
    ·exact absurd (by decide) hn
   ·rw [if_neg h] at hs
    cases hs
  ·rw [k_ways1, k_step1] at hs
   cases hs
theorem k_ok : Of13Ok kD 5 kK := by
 refine ⟨by rw [k_rows]; exact k_raw, ?_, ?_, k_uni2⟩
 ·have e1 : (raw13 kD 5).next = kN := by decide +kernel
  have e2 : (raw13 kD 5).tags = kT := by decide +kernel
  rw [e1, e2]
  intro i hi
  have : i = 0 ∨ i = 1 := by have : kN.length = 2 := rfl; omega
  rcases this with rfl | rfl <;> refine ⟨by decide +kernel, ?_⟩ <;> decide +kernel
 ·decide +kernel
theorem k_of13 : of13 5 kP kN0 kT = ((kN, kT), 0) := by decide +kernel
theorem k_of14 : of14 kN kT = ((kC, kTN, kT), 0) := by decide +kernel
theorem k_back : back14 kC kTN kT = ((kN, kT), 0) := by decide +kernel
theorem k_long : long14 kC kTN kT [97, 98] = (1, 0) := by decide +kernel
theorem k_steps : steps14 kC kTN kT [97, 98, 99] = 2 := by decide +kernel
theorem k_tsound : TSound kC kTN kT := by decide +kernel
theorem k_not : ¬ TSound [] [] [] := by decide +kernel
end Go.Proofs.YtfbfeimildkigaaDoor.P
namespace Go.Proofs.YtfbfeimildkigaaDoor.P
open Go Go.RowKit Go.Proofs.YtfbfeimildkigaaDoorW.PrintWords Go.Proofs.YtfbfeimildkigaaDoorW.PrintLast Go.Proofs.YtfbfeimildkigaaDoorW.PrintMore Go.Proofs.YtfbfeimildkigaaDoor.PX
set_option linter.unusedVariables false
set_option linter.unusedSimpArgs false
set_option maxRecDepth 100000
theorem kC_u8 : U8s kC := by unfold U8s; decide +kernel
theorem ab_u8 : U8s [97, 98] := by unfold U8s; decide
theorem abc_u8 : U8s [97, 98, 99] := by unfold U8s; decide
theorem nil_u8 : U8s [] := fun _ h => by cases h
theorem PV.lenlit {α : Type} {d : Kd α} {X : Nat → Prop} {w : World} {v : Value} {xs : List α} (h : PV d X w v xs) (n : Nat) (hn : xs.length = n) : ∃ A c, v = .slice A n c := by
 obtain ⟨A, c, e, _⟩ := h
 exact ⟨A, c, by rw [e, hn]⟩
section
variable (X : Nat → Prop) (w : World) (hX : ∀ k, X k → k < w.heap.size)
include hX
theorem k1_calls (vp vn vt : Value) (hp : PV kSps X w vp kP) (hn : PV kRow X w vn kN0) (ht : PV kInt X w vt kT) :
  Calls Tryd.prog 23 #[.agg #[vp, vn, vt]] w fun e w' => ∃ v0 v1, e = .returned (.tuple #[.agg #[v0, v1], .int .i64 0]) ∧ PV kRow X w' v0 kN ∧ PV kInt X w' v1 kT ∧ Below w.heap.size w w' := by
 have h := of13_calls X vp vn vt kP kN0 kT w hX hp hn ht (fun p hp => (k_part p hp).1) (fun _ => ⟨k_uni1, by rw [k_least]; exact k_part, by rw [k_least]; decide⟩) 5 (by decide) kK (fun _ _ => by rw [k_least]; exact k_ok)
 rw [k_of13] at h
 exact h
theorem k2_calls (vn vt : Value) (hn : PV kRow X w vn kN) (ht : PV kInt X w vt kT) :
  Calls Tryd.prog 9 #[.agg #[vn, vt]] w fun e w' => ∃ v0 v1 v2, e = .returned (.tuple #[.agg #[v0, v1, v2], .int .u16 0]) ∧ PV kU8 X w' v0 kC ∧ PV kRow X w' v1 kTN ∧ PV kInt X w' v2 kT ∧ Below w.heap.size w w' := by
 have h := cof_calls X vn vt kN kT w hX hn ht
 rw [k_of14] at h
 exact h
variable (vc vn vt : Value) (hc : PV kU8 X w vc kC) (hn : PV kRow X w vn kTN) (ht : PV kInt X w vt kT)
include hc hn ht
theorem k3_calls : Calls Tryd.prog 11 #[.agg #[vc, vn, vt]] w fun e w' => ∃ v0 v1, e = .returned (.tuple #[.agg #[v0, v1], .int .u16 0]) ∧ PV kRow X w' v0 kN ∧ PV kInt X w' v1 kT ∧ Below w.heap.size w w' := by
 have h := cback_calls X vc vn vt kC kTN kT w hX hc hn ht kC_u8
 rw [k_back] at h
 exact h
theorem k4_calls (vs : Value) (hs : PV kU8 X w vs [97, 98]) : Calls Tryd.prog 17 #[.agg #[vc, vn, vt], vs] w fun e w' => e = .returned (.tuple #[.int .i64 1, .int .i64 0]) ∧ Below w.heap.size w w' := by
 have h := clong_calls X vc vn vt vs kC kTN kT [97, 98] w hX hc hn ht hs kC_u8 ab_u8
 rw [k_long] at h
 exact h
theorem k5_calls (vs : Value) (hs : PV kU8 X w vs [97, 98, 99]) : Calls Tryd.prog 20 #[.agg #[vc, vn, vt], vs] w fun e w' => e = .returned (.int .i64 2) ∧ Below w.heap.size w w' := by
 have h := csteps_calls X vc vn vt vs kC kTN kT [97, 98, 99] w hX hc hn ht hs kC_u8 abc_u8
 rw [k_steps] at h
 exact h
theorem k6_calls : Calls Tryd.prog 15 #[.agg #[vc, vn, vt]] w fun e w' => e = .returned (.bool true) ∧ Below w.heap.size w w' := by
 have h := csound_calls X vc vn vt kC kTN kT w hX hc hn ht kC_u8
 rw [decide_eq_true k_tsound] at h
 exact h
end
theorem k7_calls (w : World) : Calls Tryd.prog 15 #[.agg #[.slice none 0 0, .slice none 0 0, .slice none 0 0]] w fun e w' => e = .returned (.bool false) ∧ Below w.heap.size w w' := by
 have h := csound_calls (fun _ => False) _ _ _ [] [] [] w (fun _ h => h.elim) (PV.nil _ _ _) (PV.nil _ _ _) (PV.nil _ _ _) nil_u8
 rw [decide_eq_false k_not] at h
 exact h
theorem k8_calls (X : Nat → Prop) (w : World) (hX : ∀ k, X k → k < w.heap.size) (va vs vb vt : Value) (hna : PV kRow X w va kN) (hta : PV kInt X w vs kT) (hnb : PV kRow X w vb kN) (htb : PV kInt X w vt kT) :
  Calls Tryd.prog 14 #[.agg #[va, vs], .agg #[vb, vt]] w fun e w' => e = .returned (.bool true) ∧ Below w.heap.size w w' := by
 have h := bsame13_calls X va vs vb vt kN kN kT kT w hX hna hta hnb htb
 rw [decide_eq_true ⟨rfl, rfl⟩] at h
 exact h
set_option maxHeartbeats 16000000 in
theorem known14_calls (w : World) : Calls Tryd.prog 12 #[] w fun e w' => e = .returned (.bool true) ∧ Below w.heap.size w w' := by
 have HS := Aside0.mk (Sep.start (X := fun _ => False) (w0 := w) (fun _ h => h.elim))
 go_enter Tryd.func12, Tryd.ntmps12
 go_wp2_with (first
  | ((with_reducible refine gate_dst (N := 11) rfl ?_); refine slit kSp 67 ?hg (N := 11) ?hd (xs := [(⟨97, 97⟩ : Sp)]) (inner := [.int .i64 97, .int .i64 97]) ?hr HS.out ?hp (by simp) ?_; (case hd => rfl); (case hg => rfl); (case hr => first | (go_simp; done) | (go_simp; rfl)); (case hp => exact sp_rep _ _ 97 97); clear HS; intro v30 w30 hs; simp only [List.nil_append, List.cons_append] at hs; obtain ⟨A0, c0, e0⟩ := hs.rform 0 rfl; subst e0; have HS := Aside0.mk hs; clear hs)
  | ((with_reducible refine gate_dst (N := 12) rfl ?_); refine slit kSps 68 ?hg (N := 12) ?hd (xs := [[(⟨97, 97⟩ : Sp)]]) (inner := [.slice A0 1 c0]) ?hr HS.out ?hp (by simp) ?_; (case hd => rfl); (case hg => rfl); (case hr => first | (go_simp; done) | (go_simp; rfl)); (case hp => exact Reps.one (PK.slice (HS.out.ro 0 rfl)) (Reps.none _ _)); clear HS; intro v30 w30 hs; simp only [List.nil_append, List.cons_append] at hs; obtain ⟨A1, c1, e1⟩ := hs.rform 1 rfl; subst e1; have HS := Aside0.mk hs; clear hs)
  | ((with_reducible refine gate_dst (N := 13) rfl ?_); refine slit kInt 3 ?hg (N := 13) ?hd (xs := [(1 : Int)]) (inner := [.int .i64 1]) ?hr HS.out ?hp (by simp) ?_; (case hd => rfl); (case hg => rfl); (case hr => first | (go_simp; done) | (go_simp; rfl)); (case hp => exact Reps.one (PK.scalar _) (Reps.none _ _)); clear HS; intro v30 w30 hs; simp only [List.nil_append, List.cons_append] at hs; obtain ⟨A2, c2, e2⟩ := hs.rform 2 rfl; subst e2; have HS := Aside0.mk hs; clear hs)
  | ((with_reducible refine gate_dst (N := 14) rfl ?_); refine slit kInt 3 ?hg (N := 14) ?hd (xs := [(-1 : Int)]) (inner := [.int .i64 (-1)]) ?hr HS.out ?hp (by simp) ?_; (case hd => rfl); (case hg => rfl); (case hr => first | (go_simp; done) | (go_simp; rfl)); (case hp => exact Reps.one (PK.scalar _) (Reps.none _ _)); clear HS; intro v30 w30 hs; simp only [List.nil_append, List.cons_append] at hs; obtain ⟨A3, c3, e3⟩ := hs.rform 3 rfl; subst e3; have HS := Aside0.mk hs; clear hs)
  | ((with_reducible refine gate_dst (N := 15) rfl ?_); refine slit kRow 25 ?hg (N := 15) ?hd (xs := [[(1 : Int)], [(-1 : Int)]]) (inner := [.slice A2 1 c2, .slice A3 1 c3]) ?hr HS.out ?hp (by simp) ?_; (case hd => rfl); (case hg => rfl); (case hr => first | (go_simp; done) | (go_simp; rfl)); (case hp => exact Reps.one (PK.slice (HS.out.ro 2 rfl)) (Reps.one (PK.slice (HS.out.ro 3 rfl)) (Reps.none _ _))); clear HS; intro v30 w30 hs; simp only [List.nil_append, List.cons_append] at hs; obtain ⟨A4, c4, e4⟩ := hs.rform 4 rfl; subst e4; have HS := Aside0.mk hs; clear hs)
  | ((with_reducible refine gate_dst (N := 16) rfl ?_); refine slit kInt 3 ?hg (N := 16) ?hd (xs := [(-1 : Int), 0]) (inner := [.int .i64 (-1), .int .i64 0]) ?hr HS.out ?hp (by simp) ?_; (case hd => rfl); (case hg => rfl); (case hr => first | (go_simp; done) | (go_simp; rfl)); (case hp => exact Reps.one (PK.scalar _) (Reps.one (PK.scalar _) (Reps.none _ _))); clear HS; intro v30 w30 hs; simp only [List.nil_append, List.cons_append] at hs; obtain ⟨A5, c5, e5⟩ := hs.rform 5 rfl; subst e5; have HS := Aside0.mk hs; clear hs)
  | (go_at_call 23; (refine (k1_calls _ _ HS.out.lt _ _ _ (HS.out.ro 1 rfl) (HS.out.ro 4 rfl) (HS.out.ro 5 rfl)).mono ?_); rintro ee w5 ⟨v0, v1, rfl, h0, h1, hb⟩; obtain ⟨A6, c6, e6⟩ := PV.lenlit h0 2 rfl; subst e6; obtain ⟨A7, c7, e7⟩ := PV.lenlit h1 2 rfl; subst e7; have hs := ((HS.out.push_ro hb h0).push_ro (Below.refl _ _) (h1.to (fun _ _ h => Ys_ro h))).push_box [.slice A6 2 c6, .slice A7 2 c7] 27; simp only [List.nil_append, List.cons_append] at hs; clear h0 h1 hb; have xb0 := (hs.box 8 rfl).cell 0 rfl; have xb1 := (hs.box 8 rfl).cell 1 rfl; clear HS; have HS := Aside0.mk hs; clear hs)
  | (go_at_call 9; (refine (k2_calls _ _ HS.out.lt _ _ (HS.out.ro 6 rfl) (HS.out.ro 7 rfl)).mono ?_); rintro ee w6 ⟨v0, v1, v2, rfl, h0, h1, h2, hb⟩; obtain ⟨A9, c9, e9⟩ := PV.lenlit h0 256 rfl; subst e9; obtain ⟨A10, c10, e10⟩ := PV.lenlit h1 2 rfl; subst e10; obtain ⟨A11, c11, e11⟩ := PV.lenlit h2 2 rfl; subst e11; have hs := (((HS.out.push_ro hb h0).push_ro (Below.refl _ _) (h1.to (fun _ _ h => Ys_ro h))).push_ro (Below.refl _ _) (h2.to (fun _ _ h => Ys_ro (Ys_ro h)))).push_box [.slice A9 256 c9, .slice A10 2 c10, .slice A11 2 c11] 31; simp only [List.nil_append, List.cons_append] at hs; clear h0 h1 h2 hb xb0 xb1; have xt0 := (hs.box 12 rfl).cell 0 rfl; have xt1 := (hs.box 12 rfl).cell 1 rfl; have xt2 := (hs.box 12 rfl).cell 2 rfl; clear HS; have HS := Aside0.mk hs; clear hs)
  | (go_at_call 11; (refine (k3_calls _ _ HS.out.lt _ _ _ (HS.out.ro 9 rfl) (HS.out.ro 10 rfl) (HS.out.ro 11 rfl)).mono ?_); rintro ee w7 ⟨v0, v1, rfl, h0, h1, hb⟩; obtain ⟨A13, c13, e13⟩ := PV.lenlit h0 2 rfl; subst e13; obtain ⟨A14, c14, e14⟩ := PV.lenlit h1 2 rfl; subst e14; have hs := ((HS.out.push_ro hb h0).push_ro (Below.refl _ _) (h1.to (fun _ _ h => Ys_ro h))).push_box [.slice A13 2 c13, .slice A14 2 c14] 27; simp only [List.nil_append, List.cons_append] at hs; clear h0 h1 hb xt0 xt1 xt2; have xt0 := (hs.box 12 rfl).cell 0 rfl; have xt1 := (hs.box 12 rfl).cell 1 rfl; have xt2 := (hs.box 12 rfl).cell 2 rfl; have kc2 := Lib.run_convert_bytes_const (P := Tryd.prog) (w7.alloc (.cells #[.slice A13 2 c13, .slice A14 2 c14] 27)) 29 5 #[.int .u8 97, .int .u8 98] 2 2 Tryd.underlying29 Tryd.underlying5; rw [show (w7.alloc (.cells #[.slice A13 2 c13, .slice A14 2 c14] 27)).heap.size = w7.heap.size + 1 by simp] at kc2; clear HS; have HS := Aside0.mk hs; clear hs))
 have hs := HS.out.push_bytes' (w7.heap.size + 1) (by simp) .u8 [97, 98] 5 (2, 3) (by decide)
 simp only [List.nil_append, List.cons_append] at hs
 clear HS xt0 xt1 xt2 kc2
 have HS := Aside0.mk hs
 clear hs
 refine (k4_calls _ _ HS.out.lt _ _ _ (HS.out.ro 9 rfl) (HS.out.ro 10 rfl) (HS.out.ro 11 rfl) _ (HS.out.ro 16 rfl)).mono ?_
 rintro ee w8 ⟨rfl, hb⟩
 have hs := HS.out.call hb
 clear HS hb
 have HS := Aside0.mk hs
 clear hs
 have xt0 := (HS.out.box 12 rfl).cell 0 rfl
 have xt1 := (HS.out.box 12 rfl).cell 1 rfl
 have xt2 := (HS.out.box 12 rfl).cell 2 rfl
 go_wp2_with (first
  | (go_at_call 15; (with_reducible refine (k7_calls _).mono ?_); rintro ee w12 ⟨rfl, hb⟩; have hs := HS.out.call hb; clear hb; clear HS; have HS := Aside0.mk hs; clear hs)
  | (go_at_call 15; (refine (k6_calls _ _ HS.out.lt _ _ _ (HS.out.ro 9 rfl) (HS.out.ro 10 rfl) (HS.out.ro 11 rfl)).mono ?_); rintro ee w9 ⟨rfl, hb⟩; have hs := HS.out.call hb; clear hb xt0 xt1 xt2; have xt0 := (hs.box 12 rfl).cell 0 rfl; have xt1 := (hs.box 12 rfl).cell 1 rfl; have xt2 := (hs.box 12 rfl).cell 2 rfl; have xb0 := (hs.box 8 rfl).cell 0 rfl; have xb1 := (hs.box 8 rfl).cell 1 rfl; have xx0 := (hs.box 15 rfl).cell 0 rfl; have xx1 := (hs.box 15 rfl).cell 1 rfl; obtain ⟨ad, cd, ed, yc⟩ := u8_cell (hs.ro 9 rfl) 97 (by decide +kernel); obtain ⟨ed1, ed2, ed3⟩ := Value.slice.inj ed; clear ed ed2; subst ed1; subst ed3; rw [show kC.getD 97 0 = 1 by decide +kernel, add_pos _ (by decide)] at yc; obtain ⟨an, cn', u, en, hu, yn⟩ := (hs.ro 10 rfl).row 0 (by decide); obtain ⟨en1, en2, en3⟩ := Value.slice.inj en; clear en en2; subst en1; subst en3; obtain ⟨Au, cu, eu⟩ := PV.lenlit hu 2 (by decide +kernel); subst eu; obtain ⟨ar, cr, er, yr⟩ := int_cell hu 1 (by decide +kernel); obtain ⟨er1, er2, er3⟩ := Value.slice.inj er; clear er er2 hu; subst er1; subst er3; rw [show (kTN.getD 0 []).getD 1 0 = 1 by decide +kernel, add_pos _ (by decide)] at yr; change World.cell? _ an = _ at yn; clear HS; have HS := Aside0.mk hs; clear hs)
  | (go_at_call 14; (refine (k8_calls _ _ HS.out.lt _ _ _ _ (HS.out.ro 13 rfl) (HS.out.ro 14 rfl) (HS.out.ro 6 rfl) (HS.out.ro 7 rfl)).mono ?_); rintro ee w10 ⟨rfl, hb⟩; have hs := HS.out.call hb; clear hb xt0 xt1 xt2 xb0 xb1 xx0 xx1 yc yn yr; have xt0 := (hs.box 12 rfl).cell 0 rfl; have xt1 := (hs.box 12 rfl).cell 1 rfl; have xt2 := (hs.box 12 rfl).cell 2 rfl; have kc3 := Lib.run_convert_bytes_const (P := Tryd.prog) w10 29 5 #[.int .u8 97, .int .u8 98, .int .u8 99] 3 3 Tryd.underlying29 Tryd.underlying5; clear HS; have HS := Aside0.mk hs; clear hs)
  | (go_at_call 20; (have hs := HS.out.push_bytes .u8 [97, 98, 99] 5 (3, 4) (by decide); simp only [List.nil_append, List.cons_append] at hs; clear HS xt0 xt1 xt2 kc3; have HS := Aside0.mk hs; clear hs; (refine (k5_calls _ _ HS.out.lt _ _ _ (HS.out.ro 9 rfl) (HS.out.ro 10 rfl) (HS.out.ro 11 rfl) _ (HS.out.ro 17 rfl)).mono ?_); rintro ee w11 ⟨rfl, hb⟩; have hs := HS.out.call hb; clear HS hb; have HS := Aside0.mk hs; clear hs)))
 go_ret
 exact ⟨rfl, HS.out.below⟩
end Go.Proofs.YtfbfeimildkigaaDoor.P
namespace Go.Proofs.YtfbfeimildkigaaDoor.P
open Go Go.RowKit Go.Proofs.YtfbfeimildkigaaDoorW.PrintWords Go.Proofs.YtfbfeimildkigaaDoorW.PrintLast Go.Proofs.YtfbfeimildkigaaDoorW.PrintMore Go.Proofs.YtfbfeimildkigaaDoor.PX
set_option linter.unusedVariables false
set_option linter.unusedSimpArgs false
set_option maxRecDepth 100000
theorem PV.form {α : Type} {d : Kd α} {X : Nat → Prop} {w : World} {v : Value} {xs : List α} (h : PV d X w v xs) : ∃ A c, v = .slice A xs.length c := by
 obtain ⟨A, c, e, _⟩ := h
 exact ⟨A, c, e⟩
end Go.Proofs.YtfbfeimildkigaaDoor.P
namespace Go.Proofs.YtfbfeimildkigaaDoor.PX
open Go Go.RowKit Go.Proofs.YtfbfeimildkigaaDoorW.PrintWords
set_option linter.unusedVariables false
theorem Ys_join {X : Nat → Prop} {L L' : List Item} {k : Nat} : Ys X (L ++ L') k ↔ Ys (Ys X L) L' k := by
 constructor
 ·rintro (hx | ⟨c, hc, hcb⟩)
  ·exact .inl (.inl hx)
  ·rcases List.mem_append.1 hc with hc | hc
   ·exact .inl (.inr ⟨c, hc, hcb⟩)
   ·exact .inr ⟨c, hc, hcb⟩
 ·rintro ((hx | ⟨c, hc, hcb⟩) | ⟨c, hc, hcb⟩)
  ·exact .inl hx
  ·exact .inr ⟨c, List.mem_append_left _ hc, hcb⟩
  ·exact .inr ⟨c, List.mem_append_right _ hc, hcb⟩
theorem Sep.append {X : Nat → Prop} {w0 w w' : World} {L L' : List Item} (h : Sep X w0 w L) (h' : Sep (Ys X L) w w' L') : Sep X w0 w' (L ++ L') := by
 have hlow : ∀ c ∈ L', ∀ k, c.blk = some k → w.heap.size ≤ k := fun c hc k hk => (Item.ok_lt (h'.ok c hc) hk).2
 refine ⟨fun it hm => ?_, List.pairwise_append.2 ⟨h.ne, h'.ne, fun a ha c hc k hk hck => ?_⟩, h.old, below_step h.below h'.below⟩
 ·rcases List.mem_append.1 hm with hL | hL
  ·refine Item.ok_step (h.ok it hL) ?_ (fun k hk => .inr ⟨it, hm, hk⟩) (.of_below h'.below) (fun k hk => h'.below.block k (Item.ok_lt (h.ok it hL) hk).1)
   rintro k hk (hx | ⟨c, hc, hcb⟩)
   ·exact .inl hx
   ·rcases List.mem_append.1 hc with hc | hc
    ·exact .inr ⟨c, hc, hcb⟩
    ·have := hlow c hc k hcb
     omega
  ·have hs := Item.ok_step (Y' := Ys X (L ++ L')) (h'.ok it hL) (fun k _ hk => Ys_join.1 hk) (fun k hk => .inr ⟨it, hm, hk⟩) (Agree.refl _ _) (fun _ _ => rfl)
   have hb := h.below.size
   cases it with
   | row d e v xs => exact Own.base_le hs hb
   | box g e vals => exact ⟨hs.1, Nat.le_trans hb hs.2⟩
   | ro d v xs => exact hs
   | obj g Pr => exact ⟨hs.1, Nat.le_trans hb hs.2⟩
 ·have := hlow c hc k hck
  have := (Item.ok_lt (h.ok a ha) hk).1
  omega
section
variable {α : Type} {d : Kd α} {e b : Nat} {X : Nat → Prop} {w w0 : World} {L : List Item}
theorem ownBlock_len (A : Option Addr) (m n c : Nat) : (Value.slice A m c).ownBlock = (Value.slice A n c).ownBlock := by cases A <;> rfl
theorem Own.cut {A : Option Addr} {n c : Nat} {xs : List α} (h : Own d e X w b (.slice A n c) xs) (m : Nat) (hm : m ≤ xs.length) : Own d e X w b (.slice A m c) (xs.take m) := by
 obtain ⟨⟨inner, ho, hr⟩, hx⟩ := h
 obtain ⟨A', c', e1⟩ := own_slice ho
 cases e1
 refine ⟨⟨inner.take (m * d.sz), by rw [List.length_take, Nat.min_eq_left hm]; exact own_take ho hm, ?_⟩, fun k hk => hx k ((ownBlock_len A m xs.length c) ▸ hk)⟩
 have hl := hr.1
 have hle : m * d.sz ≤ xs.length * d.sz := Nat.mul_le_mul_right _ hm
 refine ⟨by rw [List.length_take, List.length_take, Nat.min_eq_left hm]; omega, fun j p hj => ?_⟩
 have hjm : j < m := by
  have := (List.getElem?_eq_some_iff.1 hj).1
  rw [List.length_take] at this
  omega
 have hj2 : xs[j]? = some p := by rw [← hj, List.getElem?_take, if_pos hjm]
 have hp := hr.2 j p hj2
 have h3 : (j + 1) * d.sz ≤ m * d.sz := Nat.mul_le_mul_right _ hjm
 rw [Nat.add_mul, Nat.one_mul] at h3
 rw [List.drop_take, List.take_take, Nat.min_eq_left (by omega)]
 exact hp
theorem Sep.cut_row {A : Option Addr} {n c : Nat} {xs : List α} (h : Sep X w0 w L) (i : Nat) (hi : L[i]? = some (.row d e (.slice A n c) xs)) (m : Nat) (hm : m ≤ xs.length) : Sep X w0 w (L.set i (.row d e (.slice A m c) (xs.take m))) := by
 have hb : (Item.row d e (.slice A m c) (xs.take m)).blk = (Item.row d e (.slice A n c) xs).blk := ownBlock_len A m n c
 refine h.update hi (fun k _ hk => by rw [← hb]; exact hk) (Agree.refl _ _) (((h.row i hi).cut m hm).to (fun k' hk' hk => ?_) (fun k' hk' => Ys_set hi hk'))
 rcases hk with hx | ⟨c', hc', hcb⟩
 ·exact .inl hx
 ·rcases mem_set hc' with rfl | ⟨j', _, hc''⟩
  ·exact .inr ⟨_, List.mem_of_getElem? hi, by rw [← hb]; exact hcb⟩
  ·exact .inr ⟨c', List.mem_of_getElem? hc'', hcb⟩
end
section
variable {α : Type} {d : Kd α} {e e2 E : Nat} {X : Nat → Prop} {w w0 : World} {v : Value} {us : List SlT} {gs : List (List α)}
theorem Sep.group_ro (A : List Item) (hlen : us.length = gs.length) (h : Sep X w0 w (A ++ (.row kSl e2 v us :: rows d e us gs))) : Sep X w0 w (A ++ [.ro (Kd.slice E d) v gs]) := by
 have hA : Sep X w0 w A := h.sub (List.sublist_append_left _ _)
 have hi : (A ++ (.row kSl e2 v us :: rows d e us gs))[A.length]? = some (.row kSl e2 v us) := by rw [List.getElem?_append_right (Nat.le_refl _), Nat.sub_self]; rfl
 have hg : ∀ j, j < gs.length → (A ++ (.row kSl e2 v us :: rows d e us gs))[A.length + 1 + j]? = some (.row d e (encS (us.getD j (none, 0, 0))) (gs.getD j [])) := fun j hj => by
  rw [List.getElem?_append_right (by omega), show A.length + 1 + j - A.length = j + 1 by omega, List.getElem?_cons_succ]
  exact rows_at j hlen hj
 have ha : ∀ k, v.ownBlock = some k → ¬ Ys X A k := by
  rintro k hk (hx | ⟨c, hc, hcb⟩)
  ·have := h.old k hx
   have := (h.row _ hi).base k hk
   omega
  ·obtain ⟨j, hj, rfl⟩ := List.getElem_of_mem hc
   exact h.apart (i := j) (j := A.length) (by rw [List.getElem?_append_left hj]; exact List.getElem?_eq_getElem hj) hi (by omega) k hcb hk
 refine hA.push_ro (Below.refl _ _) ?_
 have ho := h.row _ hi
 obtain ⟨⟨inner, hown, hrep⟩, _⟩ := ho
 refine Own.sealRo (e := e2) (b := w0.heap.size) (X := Xp (Ys X A) v) ⟨⟨inner, by rw [← hlen]; exact hown, ?_⟩, fun k hk => .inr hk⟩ (fun k _ hk => .inl hk) ha
 refine ⟨by rw [hrep.1, hlen]; rfl, fun j p hj => ?_⟩
 obtain ⟨hjl, hp⟩ := List.getElem?_eq_some_iff.1 hj
 have hu := hrep.2 j (us[j]'(by omega)) (List.getElem?_eq_getElem (by omega))
 have hc3 := PK.of_scalar hu
 have hro := hg j hjl
 have hpv : PV d (Xp (Ys X A) v) w (encS (us.getD j (none, 0, 0))) (gs.getD j []) := by
  refine (h.row _ hro).sealRo ?_ ?_
  ·rintro k hk ((hx | ⟨c, hc, hcb⟩) | hx)
   ·exact .inl hx
   ·exact .inr ⟨c, List.mem_append_left _ hc, hcb⟩
   ·exact .inr ⟨_, List.mem_of_getElem? hi, hx⟩
  ·rintro k hk ((hx | ⟨c, hc, hcb⟩) | hx)
   ·have := h.old k hx
    have := (h.row _ hro).base k hk
    omega
   ·obtain ⟨j', hj', rfl⟩ := List.getElem_of_mem hc
    exact h.apart (i := j') (j := A.length + 1 + j) (by rw [List.getElem?_append_left hj']; exact List.getElem?_eq_getElem hj') hro (by omega) k hcb hk
   ·exact h.apart hi hro (by omega) k hx hk
 have e1 : gs.getD j [] = p := by rw [List.getD_eq_getElem?_getD, hj]; rfl
 have e3 : us.getD j (none, 0, 0) = us[j]'(by omega) := by simp [List.getD_eq_getElem?_getD, show j < us.length by omega]
 rw [e1, e3] at hpv
 show PK (Kd.slice E d) _ _ _ (List.take kSl.sz (List.drop (j * kSl.sz) inner))
 rw [hc3]
 exact PK.slice hpv
theorem grp_set {a b c r : Item} {i : Nat} (hu : us.length = gs.length) (u : SlT) (z : List α) (h : Sep X w0 w (([a, b, c, r] ++ rows d e us gs).set (i + 4) (.row d e (encS u) z))) : Sep X w0 w ([a, b, c, r] ++ rows d e (us.set i u) (gs.set i z)) := by
 rw [← rows_set i hu]
 exact h
theorem grp_at {a b c r : Item} {i : Nat} (hu : us.length = gs.length) (hi : i < gs.length) : ([a, b, c, r] ++ rows d e us gs)[i + 4]? = some (.row d e (encS (us.getD i (none, 0, 0))) (gs.getD i [])) := rows_at i hu hi
end
end Go.Proofs.YtfbfeimildkigaaDoor.PX
