/- Part 15 of the proof: S03c, U1, S11b. -/
import Derived.Test.YtplhfgobeicegaaGreatDoorPe14
namespace Go.Proofs.YtplhfgobeicegaaGreatDoor.P
open Go Go.RowKit Go.Proofs.YtplhfgobeicegaaGreatDoorW.PrintWords Go.Proofs.YtplhfgobeicegaaGreatDoorW.PrintLast Go.Proofs.YtplhfgobeicegaaGreatDoorW.PrintMore Go.Proofs.YtplhfgobeicegaaGreatDoor.PX
attribute [local go_sem] max2_int min2_int max_two min_two
set_option linter.unusedVariables false
set_option linter.unusedSimpArgs false
set_option maxRecDepth 100000
def fromL : List Int := [0, 128, 2048, 65536]
def uptoL : List Int := [127, 2047, 65535, 1114111]
def cutL (a b : Int) (n : Nat) : List (List Rg) := cutF ((b - a).toNat + 1) a b n
def spanN (s : Sp) (n : Nat) : List (List Rg) :=
 if (if s.f0 < fromL.getD n 0 then fromL.getD n 0 else s.f0) ≤ (if uptoL.getD n 0 < s.f1 then uptoL.getD n 0 else s.f1) then
  cutL (if s.f0 < fromL.getD n 0 then fromL.getD n 0 else s.f0) (if uptoL.getD n 0 < s.f1 then uptoL.getD n 0 else s.f1) (n + 1) else []
def spanGo (s : Sp) : Nat → Nat → List (List Rg)
 | 0, _ => []
 | m + 1, n => spanN s n ++ spanGo s m (n + 1)
def rows03 : List Sp → List (List Rg)
 | [] => []
 | s :: t => spanGo s 4 0 ++ rows03 t
def of03 (l : List Sp) : List (List Rg) := rows03 (makeL l [] 2)
def SpOk (s : Sp) : Prop := 0 ≤ s.f0 ∧ s.f0 ≤ s.f1 ∧ s.f1 ≤ 1114111 ∧ (s.f1 < 55296 ∨ 57343 < s.f0)
theorem span_ok (s : Sp) (h : SpOk s) (n : Nat) (hn : n < 4) (hab : (if s.f0 < fromL.getD n 0 then fromL.getD n 0 else s.f0) ≤ (if uptoL.getD n 0 < s.f1 then uptoL.getD n 0 else s.f1)) :
  CutOk (if s.f0 < fromL.getD n 0 then fromL.getD n 0 else s.f0) (if uptoL.getD n 0 < s.f1 then uptoL.getD n 0 else s.f1) (n + 1) := by
 unfold SpOk at h
 unfold CutOk
 have hn4 : n = 0 ∨ n = 1 ∨ n = 2 ∨ n = 3 := by omega
 rcases hn4 with rfl | rfl | rfl | rfl
 ·rw [show fromL.getD 0 0 = 0 from rfl, show uptoL.getD 0 0 = 127 from rfl] at *
  split at hab <;> split at hab <;> (repeat (first | rw [if_pos (by assumption)] | rw [if_neg (by assumption)])) <;> omega
 ·rw [show fromL.getD 1 0 = 128 from rfl, show uptoL.getD 1 0 = 2047 from rfl] at *
  split at hab <;> split at hab <;> (repeat (first | rw [if_pos (by assumption)] | rw [if_neg (by assumption)])) <;> omega
 ·rw [show fromL.getD 2 0 = 2048 from rfl, show uptoL.getD 2 0 = 65535 from rfl] at *
  split at hab <;> split at hab <;> (repeat (first | rw [if_pos (by assumption)] | rw [if_neg (by assumption)])) <;> omega
 ·rw [show fromL.getD 3 0 = 65536 from rfl, show uptoL.getD 3 0 = 1114111 from rfl] at *
  split at hab <;> split at hab <;> (repeat (first | rw [if_pos (by assumption)] | rw [if_neg (by assumption)])) <;> omega
theorem cutL_calls (X : Nat → Prop) (a b : Int) (n : Nat) (w : World) (hX : ∀ k, X k → k < w.heap.size) (h : CutOk a b n) :
  Calls Tryz.prog 84 #[.int .i64 a, .int .i64 b, .int .i64 (n : Int)] w fun e w' => ∃ v, e = .returned v ∧ Own kRgs 139 (Xp X v) w' w.heap.size v (cutL a b n) ∧ Below w.heap.size w w' :=
 cut_calls ((b - a).toNat + 1) X a b n w hX h (by unfold CutOk at h; omega)
theorem cutL_len (a b : Int) (n : Nat) (h : CutOk a b n) : (cutL a b n).length ≤ 1114112 := by
 have := cutF_len ((b - a).toNat + 1) a b n h
 unfold CutOk at h
 unfold cutL
 omega
theorem cutL_calls1 (X : Nat → Prop) (a b : Int) (n : Nat) (w : World) (hX : ∀ k, X k → k < w.heap.size) (h : CutOk a b (n + 1)) :
  Calls Tryz.prog 84 #[.int .i64 a, .int .i64 b, .int .i64 ((n : Int) + 1)] w fun e w' => ∃ v, e = .returned v ∧ Own kRgs 139 (Xp X v) w' w.heap.size v (cutL a b (n + 1)) ∧ Below w.heap.size w w' :=
 cutL_calls X a b (n + 1) w hX h
set_option maxHeartbeats 8000000 in
theorem of03_calls (X : Nat → Prop) (v0 : Value) (l : List Sp) (w : World) (hX : ∀ k, X k → k < w.heap.size) (h0 : PV kSp X w v0 l) (hs : Sm l) (hl : l.length ≤ 10000) (hsp : ∀ s ∈ makeL l [] 2, SpOk s) :
    Calls Tryz.prog 64 #[v0] w fun e w' => ∃ v, e = .returned v ∧ PV kRgs X w' v (of03 l) ∧ Below w.heap.size w w' := by
  have H0 := aM h0
  have HSM := aM hs
  have HS := aM (Sep.start hX)
  have HXL := aM (show (makeL l [] 2).length ≤ 20004 by have := make_len l [] 2; simp at this; omega)
  obtain ⟨r, hr⟩ : ∃ r, r = of03 l := ⟨_, rfl⟩
  rw [← hr]
  unfold of03 at hr
  obtain ⟨x, hx⟩ : ∃ x, x = makeL l [] 2 := ⟨_, rfl⟩
  rw [← hx] at hr hsp HXL
  have HXE := aM hx.symm
  have HSP := aM hsp
  have HR := aM (show [] ++ rows03 (x.drop 0) = r from hr.symm)
  clear h0 hs hX hsp hx hr
  go_enter Tryz.func64, Tryz.ntmps64
  go_wp2_with (first
    | (go_at_call 58; (with_reducible refine (Norm_calls _ _ l _ HS.out.lt (HS.out.arg H0.out) HSM.out hl).mono ?_); rintro ee w5 ⟨v5, rfl, hv, hb⟩; rw [HXE.out] at hv; have hs := (HS.out.push_ro hb hv).push_nil kRgs 139; clear hv hb; obtain ⟨A5, c5, e5⟩ := hs.rform 0 rfl; subst e5; clear HS; have HS := aM hs; clear hs))
  have hxl : x.length ≤ 20004 := HXL.out
  go_loopg [3, 5] x.length (fun m v3 v5 w' => ∃ (i : Nat) (o : List (List Rg)), v5 = .int .i64 i ∧ Aside0 (i + m = x.length) ∧ Aside0 (o.length ≤ i * 4 * 1114112) ∧ Aside0 (o ++ rows03 (x.drop i) = r) ∧ Aside0 (Sep X w w' [.ro kSp (.slice A5 x.length c5) x, .row kRgs 139 v3 o]))
  case atStart => exact ⟨0, [], rfl, ⟨by omega⟩, ⟨by simp⟩, HR, HS⟩
  case round =>
    clear HS HR
    obtain ⟨i, o, rfl, HJ, HO, HR, HS⟩ := hrel
    cases gk with
    | zero =>
      have e1 : decide ((i : Int) < (x.length : Int)) = false := dF (by have := HJ.out; omega)
      have e2 : decide (i < x.length) = false := dF (by have := HJ.out; omega)
      have q0 : o = r := by
        have := HR.out
        rw [List.drop_eq_nil_of_le (by have := HJ.out; omega)] at this
        simpa [rows03] using this
      clear HR
      subst q0
      go_wp2_with fail
      go_ret
      exact ⟨_, rfl, HS.out.res_row 1 rfl, HS.out.below⟩
    | succ k1 =>
      have hi : i < x.length := by have := HJ.out; omega
      have e1 : decide ((i : Int) < (x.length : Int)) = true := dT (by omega)
      have e2 : decide (i < x.length) = true := dT hi
      have hi0 : (0 : Int) ≤ (i : Int) := by omega
      have hi1 : (i : Int) < (x.length : Int) := by omega
      have HR1 := HR.out
      rw [drop_at x z124 i hi, rows03] at HR1
      have HSS := aM (HSP.out _ (mem_getD x z124 i hi))
      obtain ⟨s, hs⟩ : ∃ s, s = x.getD i z124 := ⟨_, rfl⟩
      rw [← hs] at HR1 HSS
      have HSE := aM hs.symm
      have HR2 := aM HR1
      have HO2 := aM (show o.length ≤ (i * 4 + 0) * 1114112 from HO.out)
      clear HR1 HR HO hs
      go_wp2_with (first
        | ((with_reducible refine gate_dst (N := 19) rfl ?_); refine slit kInt 3 ?hg (N := 19) ?hd (xs := ([0, 128, 2048, 65536] : List Int)) (inner := [.int .i64 0, .int .i64 128, .int .i64 2048, .int .i64 65536]) ?hr HS.out ?hp (by simp) ?_; (case hd => rfl); (case hg => rfl); (case hr => first | (go_simp; done) | (go_simp; rfl)); (case hp => exact (reps_int _ _ .i64 [0, 128, 2048, 65536])); clear HS; intro v6 w6 hs; replace hs : PX.Sep X w _ (_ ++ [.ro kInt _ fromL]) := hs; obtain ⟨A6, c6, e6⟩ := hs.rform 2 rfl; subst e6; have HS := aM hs; clear hs)
        | ((with_reducible refine gate_dst (N := 20) rfl ?_); refine slit kInt 3 ?hg (N := 20) ?hd (xs := ([127, 2047, 65535, 1114111] : List Int)) (inner := [.int .i64 127, .int .i64 2047, .int .i64 65535, .int .i64 1114111]) ?hr HS.out ?hp (by simp) ?_; (case hd => rfl); (case hg => rfl); (case hr => first | (go_simp; done) | (go_simp; rfl)); (case hp => exact (reps_int _ _ .i64 [127, 2047, 65535, 1114111])); clear HS; intro v7 w7 hs; replace hs : PX.Sep X w _ (_ ++ [.ro kInt _ uptoL]) := hs; obtain ⟨A7, c7, e7⟩ := hs.rform 3 rfl; subst e7; have HS := aM hs; clear hs))
      clear e1 e2
      go_loopg [3, 8] 4 (fun m v3 v8 w' => ∃ (n : Nat) (o : List (List Rg)), v8 = .int .i64 n ∧ Aside0 (n + m = 4) ∧ Aside0 (o.length ≤ (i * 4 + n) * 1114112) ∧ Aside0 (o ++ (spanGo s m n ++ rows03 (x.drop (i + 1))) = r) ∧ Aside0 (Sep X w w' [.ro kSp (.slice A5 x.length c5) x, .row kRgs 139 v3 o, .ro kInt (.slice A6 fromL.length c6) fromL, .ro kInt (.slice A7 uptoL.length c7) uptoL]))
      case atStart => exact ⟨0, o, rfl, ⟨by omega⟩, HO2, HR2, HS⟩
      case round =>
        clear HS HR2 HO2
        obtain ⟨n, o, rfl, HN, HO, HR, HS⟩ := hrel
        cases gk with
        | zero =>
          have hn : n = 4 := by have := HN.out; omega
          have e1 : decide ((n : Int) < 4) = false := dF (by omega)
          have e2 : decide (n < 4) = false := dF (by omega)
          have HR3 := aM (show o ++ rows03 (x.drop (i + 1)) = r by have := HR.out; rwa [spanGo, List.nil_append] at this)
          have HO3 := aM (show o.length ≤ (i + 1) * 4 * 1114112 by have h1 := HO.out; have h2 : i * 4 + n = (i + 1) * 4 := (by omega); rw [h2] at h1; exact h1)
          go_wp2_with fail
          go_roundg k1
          case measure => omega
          case rel => exact ⟨i + 1, o, by go_num, ⟨by have := HJ.out; omega⟩, HO3, HR3, ⟨HS.out.take 2⟩⟩
        | succ m1 =>
          have hn : n < 4 := by have := HN.out; omega
          have e1 : decide ((n : Int) < 4) = true := dT (by omega)
          have e2 : decide (n < 4) = true := dT hn
          have hn0 : (0 : Int) ≤ (n : Int) := by omega
          have hnf : n < fromL.length := hn
          have hnu : n < uptoL.length := hn
          have hnf1 : (n : Int) < (fromL.length : Int) := by omega
          have hnu1 : (n : Int) < (uptoL.length : Int) := by omega
          obtain ⟨a5, c5', e5, y0, y1⟩ := sp_cell (HS.out.ro 0 rfl) i hi
          cases e5
          rw [HSE.out] at y0 y1
          obtain ⟨a6, c6', e6, y2⟩ := int_cell (HS.out.ro 2 rfl) n hnf
          cases e6
          obtain ⟨a7, c7', e7, y3⟩ := int_cell (HS.out.ro 3 rfl) n hnu
          cases e7
          have HR1 := HR.out
          rw [spanGo, spanN] at HR1
          have HCO := aM (span_ok s HSS.out n hn)
          have HIN := aM (show s.f0 ≤ 1114111 ∧ 0 ≤ s.f1 ∧ i < 20004 by have := HSS.out; unfold SpOk at this; omega)
          generalize gfn : fromL.getD n 0 = fn at *
          generalize gun : uptoL.getD n 0 = un at *
          generalize glo : s.f0 = lo at *
          generalize ghi : s.f1 = hi' at *
          have HG := aM (show fromL.getD n 0 = fn ∧ uptoL.getD n 0 = un ∧ s.f0 = lo ∧ s.f1 = hi' from ⟨gfn, gun, glo, ghi⟩)
          clear gfn gun glo ghi
          rcases Int.lt_or_le lo fn with c1 | c1
          all_goals rcases Int.lt_or_le un hi' with c2 | c2
          all_goals
            first
              | rw [if_pos c1, if_pos c2] at HR1 HCO
              | rw [if_pos c1, if_neg (show ¬ un < hi' by omega)] at HR1 HCO
              | rw [if_neg (show ¬ lo < fn by omega), if_pos c2] at HR1 HCO
              | rw [if_neg (show ¬ lo < fn by omega), if_neg (show ¬ un < hi' by omega)] at HR1 HCO
            split at HR1
            · next c3 =>
              have d3 := dT c3
              have HC := aM (HCO.out c3)
              have HRT := aM HR1
              have HLN := aM (cutL_len _ _ _ HC.out)
              have HOB := aM (show o.length ≤ 200000000000 from Nat.le_trans HO.out (Nat.le_trans (Nat.mul_le_mul_right _ (show i * 4 + n ≤ 100000 by have := HIN.out; omega)) (by decide)))
              clear HR1 HCO c3 HR
              go_wp2_with fail
              go_quiet (fail)
              have HS2 := aM (HS.out.drewN nq)
              clear HS
              obtain ⟨wq, hwq⟩ : ∃ q, q = wr.drewN nq := ⟨_, rfl⟩
              rw [← hwq] at HS2 ⊢
              clear y0 y1 y2 y3 hwq
              obtain ⟨b5, d5, e5, y0, y1⟩ := sp_cell (HS2.out.ro 0 rfl) i hi
              cases e5
              rw [HSE.out, HG.out.2.2.2] at y1
              obtain ⟨b7, d7, e7, y3⟩ := int_cell (HS2.out.ro 3 rfl) n hnu
              cases e7
              rw [HG.out.2.1] at y3
              go_wp2_with fail
              go_quiet (fail)
              have HS := aM (HS2.out.drewN nq)
              clear HS2
              go_wp2_with (first
                | ((go_at_call 84; (with_reducible refine (cutL_calls1 _ _ _ n _ HS.out.lt HC.out).mono ?_)); rintro e w9 ⟨v9, rfl, hv, hb⟩; have hs := (HS.out.push_row hb hv).sealRo 4 rfl; clear HS hv hb; have HS := aM hs; clear hs)
                | ((with_reducible refine gate_builtin (b := .append) (xs := #[.tmp 48, .tmp 53]) rfl ?_); at_builtin; refine sgrow kRgs 1 rfl (.tmp 48) (.tmp 53) 111 139 (.slice none 0 0) 24 rfl Tryz.underlying111 info139 rfl (by decide) (by omega) _ _ o _ rfl rfl HS.out rfl (HS.out.ro 4 rfl) (by have := HLN.out; have := HOB.out; omega) ?_; clear HS; intro v10 w10 hs; have HS := aM hs; clear hs))
              go_roundg m1
              case measure => omega
              case rel => exact ⟨n + 1, _, by go_num, ⟨by have := HN.out; omega⟩, ⟨by rw [lA]; exact Nat.le_trans (Nat.add_le_add HO.out HLN.out) (Nat.le_of_eq (Nat.succ_mul _ _).symm)⟩, ⟨by rw [← HRT.out, List.append_assoc, List.append_assoc]⟩, ⟨HS.out.take 4⟩⟩
            · next c3 =>
              have d3 := dF c3
              have HRT := aM HR1
              clear HR1 HCO HR
              go_wp2_with fail
              go_quiet (fail)
              have HS2 := aM (HS.out.drewN nq)
              clear HS
              obtain ⟨wq, hwq⟩ : ∃ q, q = wr.drewN nq := ⟨_, rfl⟩
              rw [← hwq] at HS2 ⊢
              clear y0 y1 y2 y3 hwq
              obtain ⟨b5, d5, e5, y0, y1⟩ := sp_cell (HS2.out.ro 0 rfl) i hi
              cases e5
              rw [HSE.out, HG.out.2.2.2] at y1
              obtain ⟨b7, d7, e7, y3⟩ := int_cell (HS2.out.ro 3 rfl) n hnu
              cases e7
              rw [HG.out.2.1] at y3
              go_wp2_with fail
              go_quiet (fail)
              have HS := aM (HS2.out.drewN nq)
              clear HS2
              go_wp2_with fail
              go_roundg m1
              case measure => omega
              case rel => exact ⟨n + 1, o, by go_num, ⟨by have := HN.out; omega⟩, ⟨Nat.le_trans HO.out (Nat.mul_le_mul_right _ (by omega))⟩, ⟨by rw [← HRT.out]; rfl⟩, HS⟩
end Go.Proofs.YtplhfgobeicegaaGreatDoor.P
namespace Go.Proofs.YtplhfgobeicegaaGreatDoor.P
open Go Go.RowKit Go.Proofs.YtplhfgobeicegaaGreatDoorW.PrintWords Go.Proofs.YtplhfgobeicegaaGreatDoor.PX
set_option linter.unusedVariables false
theorem mem_lay (x y : Int) : ∀ l : List Int, y ∈ layL x l ↔ y = x ∨ y ∈ l
 | [] => by simp [layL]
 | z :: t => by
  rw [layL]
  split
  ·rw [List.mem_cons, mem_lay x y t, List.mem_cons]
   constructor
   ·rintro (h | h | h) <;> simp [h]
   ·rintro (h | h | h) <;> simp [h]
  ·split
   ·next h => subst h; simp
   ·simp
theorem mem_ed1 (s : Sp) (o : List Int) (y : Int) : y ∈ ed1 s o ↔ (y = s.f0 ∧ scalarB s.f0 = true) ∨ y ∈ o := by
 unfold ed1
 split
 ·next h => rw [mem_lay]; simp [h]
 ·next h => simp [h]
theorem mem_ed2 (s : Sp) (o : List Int) (y : Int) : y ∈ ed2 s o ↔ (y = s.f1 + 1 ∧ s.f1 < 1114111 ∧ scalarB (s.f1 + 1) = true) ∨ y ∈ o := by
 unfold ed2
 split
 ·next h => rw [mem_lay]; simp [h]
 ·next h => simp [h]
def Edge (l : List Sp) (y : Int) : Prop := ∃ s ∈ l, (y = s.f0 ∧ scalarB s.f0 = true) ∨ (y = s.f1 + 1 ∧ s.f1 < 1114111 ∧ scalarB (s.f1 + 1) = true)
theorem mem_edGo (y : Int) : ∀ (l : List Sp) (o : List Int), y ∈ edGo o l ↔ y ∈ o ∨ Edge l y
 | [], o => by simp [edGo, Edge]
 | s :: t, o => by
  rw [edGo, mem_edGo y t, mem_ed2, mem_ed1]
  unfold Edge
  constructor
  ·rintro ((h | h | h) | ⟨r, hr, h⟩)
   ·exact .inr ⟨s, List.mem_cons_self, .inr h⟩
   ·exact .inr ⟨s, List.mem_cons_self, .inl h⟩
   ·exact .inl h
   ·exact .inr ⟨r, List.mem_cons_of_mem _ hr, h⟩
  ·rintro (h | ⟨r, hr, h⟩)
   ·exact .inl (.inr (.inr h))
   ·rcases List.mem_cons.1 hr with rfl | hr
    ·rcases h with h | h
     ·exact .inl (.inr (.inl h))
     ·exact .inl (.inl h)
    ·exact .inr ⟨r, hr, h⟩
theorem mem_edges (l : List Sp) (y : Int) : y ∈ edgesL l ↔ (y = 0 ∨ y = 57344) ∨ Edge l y := by
 unfold edgesL
 rw [mem_edGo]
 simp
theorem mem_layAll (y : Int) : ∀ (t e : List Int), y ∈ layAll e t ↔ y ∈ e ∨ y ∈ t
 | [], e => by simp [layAll]
 | x :: t, e => by
  rw [layAll, mem_layAll y t, mem_lay, List.mem_cons]
  constructor
  ·rintro ((h | h) | h) <;> simp [h]
  ·rintro (h | h | h) <;> simp [h]
def Rise (l : List Int) : Prop := l.Pairwise (fun a b => a < b)
theorem rise_lay (x : Int) : ∀ l : List Int, Rise l → Rise (layL x l)
 | [], _ => List.pairwise_singleton _ _
 | z :: t, h => by
  obtain ⟨h1, h2⟩ := List.pairwise_cons.1 h
  rw [layL]
  split
  ·next c =>
   refine List.pairwise_cons.2 ⟨fun y hy => ?_, rise_lay x t h2⟩
   rcases (mem_lay x y t).1 hy with rfl | hy
   ·exact c
   ·exact h1 y hy
  ·split
   ·next c => subst c; exact h
   ·next c1 c2 =>
    refine List.pairwise_cons.2 ⟨fun y hy => ?_, h⟩
    rcases List.mem_cons.1 hy with rfl | hy
    ·omega
    ·have := h1 y hy; omega
theorem rise_edGo : ∀ (l : List Sp) (o : List Int), Rise o → Rise (edGo o l)
  | [], o, h => h
  | s :: t, o, h => by
    rw [edGo]
    refine rise_edGo t _ ?_
    have h1 : Rise (ed1 s o) := by unfold ed1; split; · exact rise_lay _ _ h
                                   · exact h
    unfold ed2
    split
    · exact rise_lay _ _ h1
    · exact h1
theorem rise_edges (l : List Sp) : Rise (edgesL l) := rise_edGo l _ (by unfold Rise; decide)
theorem rise_layAll : ∀ (t e : List Int), Rise e → Rise (layAll e t)
 | [], e, h => h
 | x :: t, e, h => rise_layAll t _ (rise_lay x e h)
theorem rise_at {l : List Int} (h : Rise l) {i j : Nat} (hij : i < j) (hj : j < l.length) : l.getD i 0 < l.getD j 0 := by
 rw [List.getD_eq_getElem?_getD, List.getElem?_eq_getElem (show i < l.length by omega), List.getD_eq_getElem?_getD, List.getElem?_eq_getElem hj]
 exact List.pairwise_iff_getElem.1 h i j (by omega) hj hij
theorem mkHi_ge {e : List Int} (h : Rise e) (he : ∀ x ∈ e, 0 ≤ x ∧ x ≤ 1114111) (i : Nat) (hi : i < e.length) : e.getD i 0 ≤ mkHi e i ∧ mkHi e i ≤ 1114111 ∧ (e.getD i 0 < 55296 → mkHi e i ≤ 55295) := by
 have h0 := he _ (mem_getD e 0 i hi)
 have h3 := mkHi_in e i he
 have h1 : e.getD i 0 ≤ (if i + 1 < e.length then e.getD (i + 1) 0 - 1 else 1114111) := by
  split
  ·next c => have := rise_at h (show i < i + 1 by omega) c; omega
  ·omega
 refine ⟨?_, h3.2, ?_⟩
 ·unfold mkHi mn
  split
  ·split <;> omega
  ·exact h1
 ·intro c
  unfold mkHi mn
  rw [if_pos c]
  split <;> omega
theorem scalarB_iff (r : Int) : scalarB r = true ↔ 0 ≤ r ∧ r ≤ 1114111 ∧ (r < 55296 ∨ 57343 < r) := by
 unfold scalarB
 simp only [Bool.and_eq_true, Bool.or_eq_true, decide_eq_true_eq]
 constructor
 ·rintro ⟨⟨h1, h2⟩, h3⟩; exact ⟨h1, h2, h3⟩
 ·rintro ⟨h1, h2, h3⟩; exact ⟨⟨h1, h2⟩, h3⟩
theorem hasB_scalar {l : List Sp} {r : Int} (h : hasB l r = true) : scalarB r = true := by
 unfold hasB at h
 exact (Bool.and_eq_true_iff.1 h).2
theorem hasB_mem {l : List Sp} {r : Int} : hasB l r = true ↔ (∃ s ∈ l, s.f0 ≤ r ∧ r ≤ s.f1) ∧ scalarB r = true := by
 unfold hasB
 simp only [Bool.and_eq_true, List.any_eq_true, decide_eq_true_eq]
theorem mkBit_has {a b : List Sp} {n x : Int} (hn : n % 2 = 0) (h : mkBit n (mkK a b x) ≠ 0) : hasB a x = true ∨ hasB b x = true := by
 unfold mkBit mkK at h
 by_cases c1 : hasB a x = true
 ·exact .inl c1
 ·by_cases c2 : hasB b x = true
  ·exact .inr c2
  ·rw [if_neg c1, if_neg c2, if_pos (by decide)] at h
   exact absurd hn h
def Made (a b : List Sp) (s : Sp) : Prop := SpOk s ∧ (hasB a s.f0 = true ∨ hasB b s.f0 = true)
theorem mkOut_made {a b : List Sp} {out : List Sp} {x hi : Int} (ho : ∀ s ∈ out, Made a b s) (hx : scalarB x = true) (hh : hasB a x = true ∨ hasB b x = true) (h1 : x ≤ hi) (h2 : hi ≤ 1114111) (h3 : x < 55296 → hi ≤ 55295) : ∀ s ∈ mkOut out x hi, Made a b s := by
 have hs := (scalarB_iff x).1 hx
 unfold mkOut
 split
 ·next c =>
  intro s hm
  rcases List.mem_or_eq_of_mem_set hm with h | h
  ·exact ho s h
  ·have hl := ho _ (mem_getD out z124 (out.length - 1) (by omega))
   subst h
   obtain ⟨⟨q1, q2, q3, q4⟩, q5⟩ := hl
   refine ⟨⟨q1, ?_, h2, ?_⟩, q5⟩
   ·have := c.2; dsimp only; omega
   ·have := c.2; dsimp only; omega
 ·intro s hm
  rcases List.mem_append.1 hm with h | h
  ·exact ho s h
  ·obtain rfl : s = ⟨x, hi⟩ := by simpa using h
   exact ⟨⟨hs.1, h1, h2, by dsimp only; omega⟩, hh⟩
theorem mkGo_made {a b : List Sp} {n : Int} (hn : n % 2 = 0) {e : List Int} (hr : Rise e) (he : ∀ x ∈ e, 0 ≤ x ∧ x ≤ 1114111) : ∀ (d i : Nat) (out : List Sp), i + d ≤ e.length → (∀ s ∈ out, Made a b s) → ∀ s ∈ mkGo a b n e d i out, Made a b s
 | 0, _, out, _, h => h
 | d + 1, i, out, hd, h => by
  rw [mkGo]
  refine mkGo_made hn hr he d (i + 1) _ (by omega) ?_
  split
  ·exact h
  ·next c =>
   have hb := mkBit_has hn c
   have hg := mkHi_ge hr he i (by omega)
   exact mkOut_made h (hb.elim hasB_scalar hasB_scalar) hb hg.1 hg.2.1 hg.2.2
theorem make_made (a b : List Sp) (n : Int) (hn : n % 2 = 0) : ∀ s ∈ makeL a b n, Made a b s :=
 mkGo_made hn (rise_layAll _ _ (rise_edges a)) (layAll_range _ _ (edges_range b) (edges_range a)) _ 0 [] (by omega) (by intro s hs; cases hs)
theorem mkOut_ne (out : List Sp) (x hi : Int) : (mkOut out x hi).length ≠ 0 := by
 unfold mkOut
 split
 ·next c => rw [List.length_set]; omega
 ·simp
theorem mkGo_ne {a b : List Sp} {n : Int} {e : List Int} : ∀ (d i : Nat) (out : List Sp), (out.length ≠ 0 ∨ ∃ j, i ≤ j ∧ j < i + d ∧ mkBit n (mkK a b (e.getD j 0)) ≠ 0) → (mkGo a b n e d i out).length ≠ 0
 | 0, i, out, h => by
  rcases h with h | ⟨j, h1, h2, _⟩
  ·exact h
  ·omega
 | d + 1, i, out, h => by
  rw [mkGo]
  refine mkGo_ne d (i + 1) _ ?_
  split
  ·next c =>
   rcases h with h | ⟨j, h1, h2, h3⟩
   ·exact .inl h
   ·have : j ≠ i := fun hji => by subst hji; exact h3 c
    exact .inr ⟨j, by omega, by omega, h3⟩
  ·exact .inl (mkOut_ne _ _ _)
theorem make_ne {a b : List Sp} {n x : Int} (hx : x ∈ edgesL a ∨ x ∈ edgesL b) (h : mkBit n (mkK a b x) ≠ 0) : (makeL a b n).length ≠ 0 := by
 have hm : x ∈ layAll (edgesL a) (edgesL b) := (mem_layAll x _ _).2 hx
 obtain ⟨j, hj, e⟩ := List.getElem_of_mem hm
 refine mkGo_ne _ 0 [] (.inr ⟨j, Nat.zero_le _, by omega, ?_⟩)
 rw [List.getD_eq_getElem?_getD, List.getElem?_eq_getElem hj, Option.getD_some, e]
 exact h
theorem norm_char {p : List Sp} (h : makeL p [] 2 = p) (hne : p.length ≠ 0) : ∃ s ∈ p, hasB p s.f0 = true ∧ SpOk s := by
 obtain ⟨s, hs⟩ := List.exists_mem_of_length_pos (show 0 < p.length by omega)
 have hm := make_made p [] 2 (by decide) s (by rw [h]; exact hs)
 refine ⟨s, hs, ?_, hm.1⟩
 rcases hm.2 with h | h
 ·exact h
 ·simp [hasB] at h
theorem norm_ne {u : List Sp} {s : Sp} (hs : s ∈ u) (hsc : scalarB s.f0 = true) (hle : s.f0 ≤ s.f1) : (makeL u [] 2).length ≠ 0 := by
 refine make_ne (x := s.f0) (.inl ((mem_edges u _).2 (.inr ⟨s, hs, .inl ⟨rfl, hsc⟩⟩))) ?_
 have h1 : hasB u s.f0 = true := hasB_mem.2 ⟨⟨s, hs, by omega, hle⟩, hsc⟩
 have h2 : hasB [] s.f0 = false := by simp [hasB]
 unfold mkK
 rw [if_pos h1, h2]
 decide
end Go.Proofs.YtplhfgobeicegaaGreatDoor.P
namespace Go.Proofs.YtplhfgobeicegaaGreatDoor.P
open Go Go.RowKit Go.Proofs.YtplhfgobeicegaaGreatDoorW.PrintWords Go.Proofs.YtplhfgobeicegaaGreatDoorW.PrintLast Go.Proofs.YtplhfgobeicegaaGreatDoorW.PrintMore Go.Proofs.YtplhfgobeicegaaGreatDoor.PX
set_option linter.unusedVariables false
set_option linter.unusedSimpArgs false
set_option maxRecDepth 100000
def PartOk (parts : List (List Sp)) (i : Nat) : Prop := makeL (parts.getD i []) [] 2 = parts.getD i [] ∧ ∀ j, j < i → (makeL (parts.getD i []) (parts.getD j []) 8).length = 0
def RowOk (P : Nat) (next : List (List Int)) (tags : List Int) (i : Nat) : Prop := (next.getD i []).length = P ∧ -1 ≤ tags.getD i 0 ∧ ∀ j, j < (next.getD i []).length → -1 ≤ (next.getD i []).getD j 0 ∧ (next.getD i []).getD j 0 < (tags.length : Int)
def SoundP (parts : List (List Sp)) (next : List (List Int)) (tags : List Int) : Prop :=
 (parts.length ≤ 2000 ∧ 1 ≤ tags.length ∧ tags.length ≤ 2000 ∧ next.length = tags.length) ∧ (∀ i, i < parts.length → PartOk parts i) ∧ ∀ i, i < tags.length → RowOk parts.length next tags i
instance (parts : List (List Sp)) (i : Nat) : Decidable (PartOk parts i) := by unfold PartOk; infer_instance
instance (P : Nat) (next : List (List Int)) (tags : List Int) (i : Nat) : Decidable (RowOk P next tags i) := by unfold RowOk; infer_instance
instance (parts : List (List Sp)) (next : List (List Int)) (tags : List Int) : Decidable (SoundP parts next tags) := by unfold SoundP; infer_instance
set_option maxHeartbeats 4000000 in
theorem dsound_calls (X : Nat → Prop) (vp vn vt : Value) (parts : List (List Sp)) (next : List (List Int)) (tags : List Int) (w : World) (hX : ∀ k, X k → k < w.heap.size) (hp : PV kSps X w vp parts) (hn : PV kRow X w vn next) (ht : PV kInt X w vt tags)
  (hs : ∀ p ∈ parts, Sm p ∧ p.length ≤ 10000) :
  Calls Tryz.prog 48 #[.agg #[vp, vn, vt]] w fun e w' => e = .returned (.bool (decide (SoundP parts next tags))) ∧ Below w.heap.size w w' := by
 have H0 := aM hp
 have H1 := aM hn
 have H2 := aM ht
 have HX := aM hX
 have HSM := aM hs
 have m0 := hp.max
 have m1 := hn.max
 have m2 := ht.max
 obtain ⟨Ap, cp, rfl, _, _⟩ := hp.now
 obtain ⟨An, cn, rfl, _, _⟩ := hn.now
 obtain ⟨At, ct, rfl, _, _⟩ := ht.now
 obtain ⟨q, hq⟩ : ∃ q, q = decide (SoundP parts next tags) := ⟨_, rfl⟩
 rw [← hq]
 have HQ := aM hq
 clear hp hn ht hX hs hq
 have h5 : 2000 < parts.length ∨ (parts.length ≤ 2000 ∧ tags.length < 1) ∨ (parts.length ≤ 2000 ∧ 1 ≤ tags.length ∧ 2000 < tags.length) ∨ (parts.length ≤ 2000 ∧ 1 ≤ tags.length ∧ tags.length ≤ 2000 ∧ next.length ≠ tags.length) ∨ (parts.length ≤ 2000 ∧ 1 ≤ tags.length ∧ tags.length ≤ 2000 ∧ next.length = tags.length) := by omega
 rcases h5 with h | ⟨a1, h⟩ | ⟨a1, a2, h⟩ | ⟨a1, a2, a3, h⟩ | ⟨a1, a2, a3, a4⟩
 case' inl =>
  have q0 : q = false := by rw [HQ.out]; exact dF (fun s => by have := s.1; omega)
  have d1 : decide ((parts.length : Int) > 2000) = true := dT (by omega)
  have d1n : decide (2000 < parts.length) = true := dT (by omega)
 case' inr.inl =>
  have q0 : q = false := by rw [HQ.out]; exact dF (fun s => by have := s.1; omega)
  have d1 : decide ((parts.length : Int) > 2000) = false := dF (by omega)
  have d1n : decide (2000 < parts.length) = false := dF (by omega)
  have d2 : decide ((tags.length : Int) < 1) = true := dT (by omega)
  have d2n : decide (tags.length < 1) = true := dT (by omega)
 case' inr.inr.inl =>
  have q0 : q = false := by rw [HQ.out]; exact dF (fun s => by have := s.1; omega)
  have d1 : decide ((parts.length : Int) > 2000) = false := dF (by omega)
  have d1n : decide (2000 < parts.length) = false := dF (by omega)
  have d2 : decide ((tags.length : Int) < 1) = false := dF (by omega)
  have d2n : decide (tags.length < 1) = false := dF (by omega)
  have d3 : decide ((tags.length : Int) > 2000) = true := dT (by omega)
  have d3n : decide (2000 < tags.length) = true := dT (by omega)
 case' inr.inr.inr.inl =>
  have q0 : q = false := by rw [HQ.out]; exact dF (fun s => by have := s.1; omega)
  have d1 : decide ((parts.length : Int) > 2000) = false := dF (by omega)
  have d1n : decide (2000 < parts.length) = false := dF (by omega)
  have d2 : decide ((tags.length : Int) < 1) = false := dF (by omega)
  have d2n : decide (tags.length < 1) = false := dF (by omega)
  have d3 : decide ((tags.length : Int) > 2000) = false := dF (by omega)
  have d3n : decide (2000 < tags.length) = false := dF (by omega)
  have d4 : ((next.length : Int) != (tags.length : Int)) = true := bne_iff_ne.mpr (by omega)
  have d4n : ((next.length : Int) == (tags.length : Int)) = false := bF (by omega)
 case' inr.inr.inr.inr =>
  have d1 : decide ((parts.length : Int) > 2000) = false := dF (by omega)
  have d1n : decide (2000 < parts.length) = false := dF (by omega)
  have d2 : decide ((tags.length : Int) < 1) = false := dF (by omega)
  have d2n : decide (tags.length < 1) = false := dF (by omega)
  have d3 : decide ((tags.length : Int) > 2000) = false := dF (by omega)
  have d3n : decide (2000 < tags.length) = false := dF (by omega)
  have d4 : ((next.length : Int) != (tags.length : Int)) = false := bne_eq_false_iff_eq.mpr (by omega)
  have d4n : ((next.length : Int) == (tags.length : Int)) = true := beq_iff_eq.mpr (by omega)
 case inr.inr.inr.inr =>
  have HL := aM (show parts.length ≤ 2000 ∧ 1 ≤ tags.length ∧ tags.length ≤ 2000 ∧ next.length = tags.length from ⟨a1, a2, a3, a4⟩)
  clear a4
  go_enter Tryz.func48, Tryz.ntmps48
  go_wp2_with fail
  obtain ⟨w1, hw1⟩ : ∃ w1, w1 = w.alloc (.cells #[.slice Ap parts.length cp, .slice An next.length cn, .slice At tags.length ct] 80) := ⟨_, rfl⟩
  rw [← hw1]
  have hb1 : Below w.heap.size w w1 := by rw [hw1]; exact below_alloc (Below.refl _ _) _
  have HB1 := aM hb1
  have HG := aM (show Box w1 w.heap.size 80 [.slice Ap parts.length cp, .slice An next.length cn, .slice At tags.length ct] by rw [hw1]; exact Box.alloc w _ _)
  have HX1 := aM (show ∀ k, X k → k < w1.heap.size from fun k hk => Nat.lt_of_lt_of_le (HX.out k hk) hb1.size)
  have HP := aM (H0.out.below hb1)
  have HN := aM (H1.out.below hb1)
  have HT := aM (H2.out.below hb1)
  have HBE := aM (show ∀ W, Below w1.heap.size w1 W → Below w.heap.size w W from fun W h => below_step hb1 h)
  clear hw1 hb1 d1 d1n d2 d2n d3 d3n d4 d4n H0 H1 H2
  obtain ⟨g, hg⟩ : ∃ g, g = w.heap.size := ⟨_, rfl⟩
  rw [← hg] at HG ⊢
  clear hg
  go_loopg [4] parts.length (fun m v4 w' => ∃ (i : Nat), v4 = .int .i64 i ∧ Aside0 (i + m = parts.length) ∧ Aside0 (∀ a, a < i → PartOk parts a) ∧ Aside0 (Below w1.heap.size w1 w'))
  case atStart => exact ⟨0, rfl, ⟨by omega⟩, ⟨fun a h => by omega⟩, ⟨Below.refl _ _⟩⟩
  case round =>
   obtain ⟨i, rfl, HJ, HO, HB⟩ := hrel
   have HGi := aM (HG.out.step HB.out)
   have y0 := HGi.out.cell 0 rfl
   cases gk with
   | succ k1 =>
    have hi : i < parts.length := by have := HJ.out; omega
    have hi2 : i < 2000 := by have := HL.out.1; omega
    have e1 : decide ((i : Int) < (parts.length : Int)) = true := dT (by omega)
    have e2 : decide (i < parts.length) = true := dT hi
    have hi0 : (0 : Int) ≤ (i : Int) := by omega
    have hi1 : (i : Int) < (parts.length : Int) := by omega
    obtain ⟨ap, cx, ux, ex, hux, hcx⟩ := (HP.out.below HB.out).row i hi
    cases ex
    have HPS := aM (HSM.out _ (mem_getD parts [] i hi))
    have HPD := aM (show PartOk parts i ↔ _ from Iff.rfl)
    unfold PartOk at HPD
    have HU := aM hux
    clear hux
    obtain ⟨p, hp⟩ : ∃ p, p = parts.getD i [] := ⟨_, rfl⟩
    rw [← hp] at HU HPS HPD
    have HPE := aM hp
    clear hp
    have HXw := aM (show ∀ k, X k → k < _ from fun k hk => Nat.lt_of_lt_of_le (HX1.out k hk) HB.out.size)
    have HBd := aM (below_drew (Below.refl wr.heap.size wr))
    have yd0 := pw_cell_below HBd.out y0
    have yd1 := pw_cell_below HBd.out hcx
    obtain ⟨bq, hbq⟩ : ∃ b, b = decide (makeL p [] 2 = p) := ⟨_, rfl⟩
    have HBQ := aM hbq
    clear hbq
    go_wp2_with fail
    refine start_ (n := 13) (S := fun w' => w'.cell? ⟨g, 0, none⟩ = some (.slice (some ap) parts.length cp) ∧ w'.cell? (ap.add i) = some ux) (ds := []) #[false, false, false, false, false, false, false, false, false, false, false, false, false] (by kernel_rfl) rfl rfl ⟨yd0, yd1⟩ (fun hHeld => ?_)
    refine pure_ (i := 0) (N := some 37) (v := ?_) (a' := ?_) (bv 13 1) rfl rfl (by kernel_rfl) (fun _ _ _ h => h) (Or.inl ⟨by rfl, ?_⟩) ?_ ?_
    rotate_left
    ·intro w'
     go_simp
     with_reducible rfl
    rotate_left
    ·simp only [Act.put, qA, qB, qC, i64_w, i32_w]
     rfl
    refine pure_ (i := 2) (N := some 39) (v := ?_) (a' := ?_) (bv 13 5) rfl rfl (by kernel_rfl) (fun _ _ _ h => h) (Or.inl ⟨by rfl, ?_⟩) ?_ ?_
    rotate_left
    ·intro w'
     go_simp
     with_reducible rfl
    rotate_left
    ·simp only [Act.put, qA, qB, qC, i64_w, i32_w]
     rfl
    refine pure_ (i := 6) (N := some 43) (v := ?_) (a' := ?_) (bv 13 69) rfl rfl (by kernel_rfl) (fun _ _ _ h => h) (Or.inl ⟨by rfl, ?_⟩) ?_ ?_
    rotate_left
    ·intro w'
     go_simp
     with_reducible rfl
    rotate_left
    ·simp only [Act.put, qA, qB, qC, i64_w, i32_w]
     rfl
    refine pure_ (i := 8) (N := some 45) (v := ?_) (a' := ?_) (bv 13 325) rfl rfl (by kernel_rfl) (fun _ _ _ h => h) (Or.inl ⟨by rfl, ?_⟩) ?_ ?_
    rotate_left
    ·intro w'
     go_simp
     with_reducible rfl
    rotate_left
    ·simp only [Act.put, qA, qB, qC, i64_w, i32_w]
     rfl
    refine take_ (i := 1) (N := some 38) (v := ?_) (a' := ?_) (bv 13 327) rfl rfl (by kernel_rfl) (fun _ _ _ h => h) (Or.inl ⟨by rfl, ?_⟩) hHeld ?_ ?_
    rotate_left
    ·rintro w' ⟨s0, s1⟩
     go_simp
     with_reducible rfl
    rotate_left
    ·simp only [Act.put, qA, qB, qC, i64_w, i32_w]
     rfl
    refine pure_ (i := 3) (N := some 40) (v := ?_) (a' := ?_) (bv 13 335) rfl rfl (by kernel_rfl) (fun _ _ _ h => h) (Or.inl ⟨by rfl, ?_⟩) ?_ ?_
    rotate_left
    ·intro w'
     go_simp
     with_reducible rfl
    rotate_left
    ·simp only [Act.put, qA, qB, qC, i64_w, i32_w]
     rfl
    refine take_ (i := 4) (N := some 41) (v := ?_) (a' := ?_) (bv 13 351) rfl rfl (by kernel_rfl) (fun _ _ _ h => h) (Or.inl ⟨by rfl, ?_⟩) hHeld ?_ ?_
    rotate_left
    ·rintro w' ⟨s0, s1⟩
     go_simp
     with_reducible rfl
    rotate_left
    ·simp only [Act.put, qA, qB, qC, i64_w, i32_w]
     rfl
    refine take_ (i := 7) (N := some 44) (v := ?_) (a' := ?_) (bv 13 479) rfl rfl (by kernel_rfl) (fun _ _ _ h => h) (Or.inl ⟨by rfl, ?_⟩) hHeld ?_ ?_
    rotate_left
    ·rintro w' ⟨s0, s1⟩
     go_simp
     with_reducible rfl
    rotate_left
    ·simp only [Act.put, qA, qB, qC, i64_w, i32_w]
     rfl
    refine pure_ (i := 9) (N := some 46) (v := ?_) (a' := ?_) (bv 13 991) rfl rfl (by kernel_rfl) (fun _ _ _ h => h) (Or.inl ⟨by rfl, ?_⟩) ?_ ?_
    rotate_left
    ·intro w'
     go_simp
     with_reducible rfl
    rotate_left
    ·simp only [Act.put, qA, qB, qC, i64_w, i32_w]
     rfl
    refine take_ (i := 10) (N := some 47) (v := ?_) (a' := ?_) (bv 13 2015) rfl rfl (by kernel_rfl) (fun _ _ _ h => h) (Or.inl ⟨by rfl, ?_⟩) hHeld ?_ ?_
    rotate_left
    ·rintro w' ⟨s0, s1⟩
     go_simp
     with_reducible rfl
    rotate_left
    ·simp only [Act.put, qA, qB, qC, i64_w, i32_w]
     rfl
    refine one_ (i := 5) (N := some 42) (bv 13 2047) rfl rfl (by kernel_rfl) (by decide) (fun K hK => ?_)
    refine goes_ Tryz.func58 (by kernel_rfl) rfl #[ux] (by rfl) rfl rfl (by simp only [List.map_toArray, List.map_cons, List.map_nil]; rfl) ?_
    with_reducible refine (Norm_calls X ux p _ (fun k hk => Nat.lt_of_lt_of_le (HXw.out k hk) HBd.out.size) (HU.out.below HBd.out) HPS.out.1 HPS.out.2).mono ?_
    rintro e w5 ⟨v5, rfl, hv5, hb5⟩
    refine ⟨_, rfl, ?_⟩
    have H5 := aM hv5
    have HB5 := aM (below_step HBd.out hb5)
    have z0 := pw_cell_below hb5 hHeld.1
    have z1 := pw_cell_below hb5 hHeld.2
    clear hv5 hb5 hHeld
    refine hK.out _ _ ⟨z0, z1⟩ (fun hHeld => ?_)
    clear hK K
    refine norm_ (a' := ?_) ?_ ?_
    rotate_left
    ·show Act.put _ (some 42) _ = _
     simp only [Act.put, qA, qB, qC, i64_w, i32_w]
     rfl
    refine one_ (i := 11) (N := some 48) (bv 13 4095) rfl rfl (by kernel_rfl) (by decide) (fun K hK => ?_)
    refine goes_ Tryz.func57 (by kernel_rfl) rfl #[v5, ux] (by rfl) rfl rfl (by simp only [List.map_toArray, List.map_cons, List.map_nil]; rfl) ?_
    with_reducible refine (Alike_calls X v5 ux (makeL p [] 2) p _ H5.out (HU.out.below HB5.out)).mono ?_
    rintro e w6 ⟨rfl, hb6⟩
    refine ⟨_, rfl, ?_⟩
    rw [← HBQ.out]
    have HB6 := aM (below_step HB5.out hb6)
    have z2 := pw_cell_below hb6 hHeld.1
    have z3 := pw_cell_below hb6 hHeld.2
    clear hb6 hHeld
    refine hK.out _ _ ⟨z2, z3⟩ (fun hHeld => ?_)
    clear hK K
    refine norm_ (a' := ?_) ?_ ?_
    rotate_left
    ·show Act.put _ (some 48) _ = _
     simp only [Act.put, qA, qB, qC, i64_w, i32_w]
     rfl
    refine pure_ (i := 12) (N := some 49) (v := ?_) (a' := ?_) (bv 13 8191) rfl rfl (by kernel_rfl) (fun _ _ _ h => h) (Or.inl ⟨by rfl, ?_⟩) ?_ ?_
    rotate_left
    ·intro w'
     go_simp
     with_reducible rfl
    rotate_left
    ·simp only [Act.put, qA, qB, qC, i64_w, i32_w]
     rfl
    refine done_ (by kernel_rfl) ?_
    clear hHeld z0 z1 yd0 yd1
    have HB7 := aM (below_step HB.out HB6.out)
    cases bq
    case false =>
     have q0 : q = false := by
      rw [HQ.out]
      refine dF (fun s => ?_)
      have h1 := (s.2.1 i hi).1
      rw [← HPE.out] at h1
      have h2 := HBQ.out
      rw [dT h1] at h2
      cases h2
     subst q0
     go_wp2_with fail
     go_ret
     exact ⟨rfl, HBE.out _ HB7.out⟩
    case true =>
     have HN1 := aM (show makeL p [] 2 = p from of_decide_eq_true HBQ.out.symm)
     clear HBQ
     go_wp2_with fail
     obtain ⟨wo, hwo⟩ : ∃ wo, wo = w6 := ⟨_, rfl⟩
     subst hwo
     have HG7 := aM (HG.out.step HB7.out)
     have HP7 := aM (HP.out.below HB7.out)
     have HU7 := aM (HU.out.below HB6.out)
     have y7 := HG7.out.cell 0 rfl
     have x7 := pw_cell_below HB6.out hcx
     have HX7 := aM (show ∀ k, X k → k < wo.heap.size from fun k hk => Nat.lt_of_lt_of_le (HX1.out k hk) HB7.out.size)
     clear HB6 HB5 HBd H5 z2 z3 y0 hcx
     go_loopg [5] i (fun m v5 w' => ∃ (j : Nat), v5 = .int .i64 j ∧ Aside0 (j + m = i) ∧ Aside0 (∀ a, a < j → (makeL p (parts.getD a []) 8).length = 0) ∧ Aside0 (Below wo.heap.size wo w'))
     case atStart => exact ⟨0, rfl, ⟨by omega⟩, ⟨fun a h => by omega⟩, ⟨Below.refl _ _⟩⟩
     case round =>
      obtain ⟨j, rfl, HJ2, HO2, HB2⟩ := hrel
      have HB8 := aM (below_step HB7.out HB2.out)
      cases gk with
      | zero =>
       have hj : j = i := by have := HJ2.out; omega
       have e3 : decide ((j : Int) < (i : Int)) = false := dF (by omega)
       have e4 : decide (j < i) = false := dF (by omega)
       have HO3 := aM (show ∀ a, a < i + 1 → PartOk parts a from fun a h => by
        rcases Nat.lt_or_ge a i with h1 | h1
        ·exact HO.out a h1
        ·obtain rfl : a = i := by omega
         unfold PartOk
         rw [← HPE.out]
         exact ⟨HN1.out, fun b hb => HO2.out b (by omega)⟩)
       go_wp2_with fail
       go_roundg k1
       case measure => omega
       case rel => exact ⟨i + 1, by go_num, ⟨by have := HJ.out; omega⟩, HO3, HB8⟩
      | succ k2 =>
       have hj : j < i := by have := HJ2.out; omega
       have hj3 : j < 2000 := by omega
       have e3 : decide ((j : Int) < (i : Int)) = true := dT (by omega)
       have e4 : decide (j < i) = true := dT hj
       have hj0 : (0 : Int) ≤ (j : Int) := by omega
       have hj1 : (j : Int) < (parts.length : Int) := by omega
       obtain ⟨ap2, cx2, uj, ex2, huj, hcj⟩ := (HP7.out.below HB2.out).row j (by omega)
       cases ex2
       have HJS := aM (HSM.out _ (mem_getD parts [] j (by omega)))
       have HUJ := aM huj
       clear huj
       obtain ⟨s, hs⟩ : ∃ s, s = parts.getD j [] := ⟨_, rfl⟩
       rw [← hs] at HUJ HJS
       have HSE := aM hs
       clear hs
       have HBd := aM (below_drew (Below.refl wr.heap.size wr))
       have HBo := aM (below_step HB2.out HBd.out)
       have yd0 := pw_cell_below HBo.out y7
       have yd1 := pw_cell_below HBo.out x7
       have yd2 := pw_cell_below HBd.out hcj
       go_wp2_with fail
       refine start_ (n := 13) (S := fun w' => w'.cell? ⟨g, 0, none⟩ = some (.slice (some ap) parts.length cp) ∧ w'.cell? (ap.add i) = some ux ∧ w'.cell? (ap.add j) = some uj) (ds := []) #[false, false, false, false, false, false, false, false, false, false, false, false, false] (by kernel_rfl) rfl rfl ⟨yd0, yd1, yd2⟩ (fun hHeld => ?_)
       refine pure_ (i := 0) (N := some 55) (v := ?_) (a' := ?_) (bv 13 1) rfl rfl (by kernel_rfl) (fun _ _ _ h => h) (Or.inl ⟨by rfl, ?_⟩) ?_ ?_
       rotate_left
       ·intro w'
        go_simp
        with_reducible rfl
       rotate_left
       ·simp only [Act.put, qA, qB, qC, i64_w, i32_w]
        rfl
       refine pure_ (i := 2) (N := some 57) (v := ?_) (a' := ?_) (bv 13 5) rfl rfl (by kernel_rfl) (fun _ _ _ h => h) (Or.inl ⟨by rfl, ?_⟩) ?_ ?_
       rotate_left
       ·intro w'
        go_simp
        with_reducible rfl
       rotate_left
       ·simp only [Act.put, qA, qB, qC, i64_w, i32_w]
        rfl
       refine pure_ (i := 5) (N := some 60) (v := ?_) (a' := ?_) (bv 13 37) rfl rfl (by kernel_rfl) (fun _ _ _ h => h) (Or.inl ⟨by rfl, ?_⟩) ?_ ?_
       rotate_left
       ·intro w'
        go_simp
        with_reducible rfl
       rotate_left
       ·simp only [Act.put, qA, qB, qC, i64_w, i32_w]
        rfl
       refine pure_ (i := 7) (N := some 62) (v := ?_) (a' := ?_) (bv 13 165) rfl rfl (by kernel_rfl) (fun _ _ _ h => h) (Or.inl ⟨by rfl, ?_⟩) ?_ ?_
       rotate_left
       ·intro w'
        go_simp
        with_reducible rfl
       rotate_left
       ·simp only [Act.put, qA, qB, qC, i64_w, i32_w]
        rfl
       refine take_ (i := 1) (N := some 56) (v := ?_) (a' := ?_) (bv 13 167) rfl rfl (by kernel_rfl) (fun _ _ _ h => h) (Or.inl ⟨by rfl, ?_⟩) hHeld ?_ ?_
       rotate_left
       ·rintro w' ⟨s0, s1, s2⟩
        go_simp
        with_reducible rfl
       rotate_left
       ·simp only [Act.put, qA, qB, qC, i64_w, i32_w]
        rfl
       refine pure_ (i := 3) (N := some 58) (v := ?_) (a' := ?_) (bv 13 175) rfl rfl (by kernel_rfl) (fun _ _ _ h => h) (Or.inl ⟨by rfl, ?_⟩) ?_ ?_
       rotate_left
       ·intro w'
        go_simp
        with_reducible rfl
       rotate_left
       ·simp only [Act.put, qA, qB, qC, i64_w, i32_w]
        rfl
       refine take_ (i := 4) (N := some 59) (v := ?_) (a' := ?_) (bv 13 191) rfl rfl (by kernel_rfl) (fun _ _ _ h => h) (Or.inl ⟨by rfl, ?_⟩) hHeld ?_ ?_
       rotate_left
       ·rintro w' ⟨s0, s1, s2⟩
        go_simp
        with_reducible rfl
       rotate_left
       ·simp only [Act.put, qA, qB, qC, i64_w, i32_w]
        rfl
       refine take_ (i := 6) (N := some 61) (v := ?_) (a' := ?_) (bv 13 255) rfl rfl (by kernel_rfl) (fun _ _ _ h => h) (Or.inl ⟨by rfl, ?_⟩) hHeld ?_ ?_
       rotate_left
       ·rintro w' ⟨s0, s1, s2⟩
        go_simp
        with_reducible rfl
       rotate_left
       ·simp only [Act.put, qA, qB, qC, i64_w, i32_w]
        rfl
       refine pure_ (i := 8) (N := some 63) (v := ?_) (a' := ?_) (bv 13 511) rfl rfl (by kernel_rfl) (fun _ _ _ h => h) (Or.inl ⟨by rfl, ?_⟩) ?_ ?_
       rotate_left
       ·intro w'
        go_simp
        with_reducible rfl
       rotate_left
       ·simp only [Act.put, qA, qB, qC, i64_w, i32_w]
        rfl
       refine take_ (i := 9) (N := some 64) (v := ?_) (a' := ?_) (bv 13 1023) rfl rfl (by kernel_rfl) (fun _ _ _ h => h) (Or.inl ⟨by rfl, ?_⟩) hHeld ?_ ?_
       rotate_left
       ·rintro w' ⟨s0, s1, s2⟩
        go_simp
        with_reducible rfl
       rotate_left
       ·simp only [Act.put, qA, qB, qC, i64_w, i32_w]
        rfl
       refine one_ (i := 10) (N := some 65) (bv 13 2047) rfl rfl (by kernel_rfl) (by decide) (fun K hK => ?_)
       refine goes_ Tryz.func59 (by kernel_rfl) rfl #[ux, uj] (by rfl) rfl rfl (by simp only [List.map_toArray, List.map_cons, List.map_nil]; rfl) ?_
       with_reducible refine (Inter_calls X ux uj p s _ (fun k hk => Nat.lt_of_lt_of_le (HX7.out k hk) HBo.out.size) (HU7.out.below HBo.out) (HUJ.out.below HBd.out) HPS.out.1 HJS.out.1 HPS.out.2 HJS.out.2).mono ?_
       rintro e w5 ⟨v5, rfl, hv5, hb5⟩
       refine ⟨_, rfl, ?_⟩
       have H5 := aM hv5
       have HB5 := aM (below_step HBo.out hb5)
       have z0 := pw_cell_below hb5 hHeld.1
       have z1 := pw_cell_below hb5 hHeld.2.1
       have z2 := pw_cell_below hb5 hHeld.2.2
       clear hv5 hb5 hHeld
       obtain ⟨A5, c5, e5, _, _⟩ := H5.out.now
       subst e5
       refine hK.out _ _ ⟨z0, z1, z2⟩ (fun hHeld => ?_)
       clear hK K
       refine norm_ (a' := ?_) ?_ ?_
       rotate_left
       ·show Act.put _ (some 65) _ = _
        simp only [Act.put, qA, qB, qC, i64_w, i32_w]
        rfl
       refine pure_ (i := 11) (N := some 66) (v := ?_) (a' := ?_) (bv 13 4095) rfl rfl (by kernel_rfl) (fun _ _ _ h => h) (Or.inl ⟨by rfl, ?_⟩) ?_ ?_
       rotate_left
       ·intro w'
        go_simp
        with_reducible rfl
       rotate_left
       ·simp only [Act.put, qA, qB, qC, i64_w, i32_w]
        rfl
       refine pure_ (i := 12) (N := some 67) (v := ?_) (a' := ?_) (bv 13 8191) rfl rfl (by kernel_rfl) (fun _ _ _ h => h) (Or.inl ⟨by rfl, ?_⟩) ?_ ?_
       rotate_left
       ·intro w'
        go_simp
        with_reducible rfl
       rotate_left
       ·simp only [Act.put, qA, qB, qC, i64_w, i32_w]
        rfl
       refine done_ (by kernel_rfl) ?_
       clear hHeld z0 z1 z2 yd0 yd1 yd2
       rcases Nat.eq_zero_or_pos (makeL p s 8).length with c | c
       ·have f1 : decide (((makeL p s 8).length : Int) > 0) = false := dF (by omega)
        have f2 : decide (0 < (makeL p s 8).length) = false := dF (by omega)
        have HO3 := aM (show ∀ a, a < j + 1 → (makeL p (parts.getD a []) 8).length = 0 from fun a h => by
         rcases Nat.lt_or_ge a j with h1 | h1
         ·exact HO2.out a h1
         ·obtain rfl : a = j := by omega
          rw [← HSE.out]
          exact c)
        have f3 : (makeL p s 8).length ≤ 0 := by omega
        clear c
        go_wp2_with fail
        go_roundg k2
        case measure => omega
        case rel => exact ⟨j + 1, by go_num, ⟨by have := HJ2.out; omega⟩, HO3, HB5⟩
       ·have f1 : decide (((makeL p s 8).length : Int) > 0) = true := dT (by omega)
        have f2 : decide (0 < (makeL p s 8).length) = true := dT c
        have q0 : q = false := by
         rw [HQ.out]
         refine dF (fun t => ?_)
         have h1 := (t.2.1 i hi).2 j hj
         rw [← HPE.out, ← HSE.out] at h1
         omega
        subst q0
        go_wp2_with fail
        go_ret
        exact ⟨rfl, HBE.out _ (below_step HB7.out HB5.out)⟩
   | zero =>
    have hi : i = parts.length := by have := HJ.out; omega
    have e1 : decide ((i : Int) < (parts.length : Int)) = false := dF (by omega)
    have e2 : decide (i < parts.length) = false := dF (by omega)
    have HO4 := aM (show ∀ a, a < parts.length → PartOk parts a from fun a h => HO.out a (by omega))
    have HI := aM hi
    have hi2 : i ≤ 2000 := by have := HL.out.1; omega
    clear hi HO
    go_wp2_with fail
    go_loopg [6] tags.length (fun m v6 w' => ∃ (b : Nat), v6 = .int .i64 b ∧ Aside0 (b + m = tags.length) ∧ Aside0 (∀ a, a < b → RowOk parts.length next tags a) ∧ Aside0 (Below w1.heap.size w1 w'))
    case atStart => exact ⟨0, rfl, ⟨by omega⟩, ⟨fun a h => by omega⟩, HB⟩
    case round =>
     clear y0 HGi HB
     obtain ⟨b, rfl, HJ, HO, HB⟩ := hrel
     have HGi := aM (HG.out.step HB.out)
     have y0 := HGi.out.cell 0 rfl
     have y1 := HGi.out.cell 1 rfl
     have y2 := HGi.out.cell 2 rfl
     cases gk with
     | zero =>
      have hb : b = tags.length := by have := HJ.out; omega
      have e3 : decide ((b : Int) < (tags.length : Int)) = false := dF (by omega)
      have e4 : decide (b < tags.length) = false := dF (by omega)
      have q0 : q = true := by
       rw [HQ.out]
       exact dT ⟨HL.out, HO4.out, fun a h => HO.out a (by omega)⟩
      subst q0
      clear hb
      go_wp2_with fail
      go_ret
      exact ⟨rfl, HBE.out _ HB.out⟩
     | succ k1 =>
      have hb : b < tags.length := by have := HJ.out; omega
      have hb2 : b < 2000 := by have := HL.out; omega
      have hbn : b < next.length := by have := HL.out; omega
      have e3 : decide ((b : Int) < (tags.length : Int)) = true := dT (by omega)
      have e4 : decide (b < tags.length) = true := dT hb
      have hb0 : (0 : Int) ≤ (b : Int) := by omega
      have hb1 : (b : Int) < (tags.length : Int) := by omega
      have hb3 : (b : Int) < (next.length : Int) := by omega
      obtain ⟨an, cx, ux, ex, hux, hcx⟩ := (HN.out.below HB.out).row b hbn
      cases ex
      obtain ⟨at1, ct1, et, yt⟩ := int_cell (HT.out.below HB.out) b hb
      cases et
      have HF := aM (show ∀ (P : Prop), (RowOk parts.length next tags b → P) → (q = true → P) from fun P h hq => h ((of_decide_eq_true (HQ.out.symm.trans hq)).2.2 b hb))
      have HR := aM (show RowOk parts.length next tags b ↔ RowOk parts.length next tags b from Iff.rfl)
      unfold RowOk at HR
      have HR2 := aM (HR.out.2)
      have HR1 := aM (HR.out.1)
      clear HR
      obtain ⟨r, hr⟩ : ∃ r, r = next.getD b [] := ⟨_, rfl⟩
      obtain ⟨t, htt⟩ : ∃ t, t = tags.getD b 0 := ⟨_, rfl⟩
      rw [← hr] at hux HR2
      rw [← htt] at yt HR2
      have HF2 := aM (show q = true → (r.length = parts.length ∧ -1 ≤ t ∧ ∀ j, j < r.length → -1 ≤ r.getD j 0 ∧ r.getD j 0 < (tags.length : Int)) from fun hq => by
       have := HF.out _ (fun h => h) hq
       unfold RowOk at this
       rw [← hr, ← htt] at this
       exact this)
      have HF3 := aM (show (r.length = parts.length ∧ -1 ≤ t ∧ ∀ j, j < r.length → -1 ≤ r.getD j 0 ∧ r.getD j 0 < (tags.length : Int)) → RowOk parts.length next tags b from fun h => by
       unfold RowOk
       rw [← hr, ← htt]
       exact h)
      clear HF HR1 HR2 hr htt
      obtain ⟨Ar, cr, rfl, _, _⟩ := hux.now
      have HU := aM hux
      have mr := hux.max
      clear hux
      have h3 : r.length ≠ parts.length ∨ (r.length = parts.length ∧ t < -1) ∨ (r.length = parts.length ∧ -1 ≤ t) := by omega
      rcases h3 with h | ⟨h, h2⟩ | ⟨h, h2⟩
      case' inl =>
       have q0 : q = false := by
        cases hq : q
        ·rfl
        ·exact absurd (HF2.out hq).1 h
       have f1 : ((r.length : Int) != (parts.length : Int)) = true := bne_iff_ne.mpr (by omega)
       have f1n : ((r.length : Int) == (parts.length : Int)) = false := bF (by omega)
      case' inr.inl =>
       have q0 : q = false := by
        cases hq : q
        ·rfl
        ·have := (HF2.out hq).2.1; omega
       have f1 : ((r.length : Int) != (parts.length : Int)) = false := bne_eq_false_iff_eq.mpr (by omega)
       have f1n : ((r.length : Int) == (parts.length : Int)) = true := beq_iff_eq.mpr (by omega)
       have f2 : decide (t < -1) = true := dT h2
       clear h
      case' inr.inr =>
       have f1 : ((r.length : Int) != (parts.length : Int)) = false := bne_eq_false_iff_eq.mpr (by omega)
       have f1n : ((r.length : Int) == (parts.length : Int)) = true := beq_iff_eq.mpr (by omega)
       have f2 : decide (t < -1) = false := dF (by omega)
       have HRL := aM h
       clear h
      case inr.inr =>
       go_wp2_with fail
       go_quiet (fail)
       have HBq := aM (pw_below_drewN HB.out nq)
       have hcx2 := pw_cell_below (bn wr nq) hcx
       have HUq := aM (HU.out.below (bn wr nq))
       go_wp2_with fail
       obtain ⟨wo, hwo⟩ : ∃ wo, wo = wr.drewN nq := ⟨_, rfl⟩
       rw [← hwo] at HBq hcx2 HUq ⊢
       clear hwo
       go_loopg [7] r.length (fun m v7 w' => ∃ (j : Nat), v7 = .int .i64 j ∧ Aside0 (j + m = r.length) ∧ Aside0 (∀ a, a < j → -1 ≤ r.getD a 0 ∧ r.getD a 0 < (tags.length : Int)) ∧ w' = wo)
       case atStart => exact ⟨0, rfl, ⟨by omega⟩, ⟨fun a h => by omega⟩, rfl⟩
       case round =>
        obtain ⟨j, rfl, HJ2, HO2, hw⟩ := hrel
        subst hw
        clear y0 y1 y2 hcx
        have HGj := aM (HG.out.step HBq.out)
        have y1 := HGj.out.cell 1 rfl
        cases gk with
        | zero =>
         have hj : j = r.length := by have := HJ2.out; omega
         have e5 : decide ((j : Int) < (r.length : Int)) = false := dF (by omega)
         have e6 : decide (j < r.length) = false := dF (by omega)
         have HO3 := aM (show ∀ a, a < b + 1 → RowOk parts.length next tags a from fun a h => by
          rcases Nat.lt_or_ge a b with h1 | h1
          ·exact HO.out a h1
          ·obtain rfl : a = b := by omega
           exact HF3.out ⟨HRL.out, h2, fun c hc => HO2.out c (by omega)⟩)
         clear hj
         go_wp2_with fail
         go_roundg k1
         case measure => omega
         case rel => exact ⟨b + 1, by go_num, ⟨by have := HJ.out; omega⟩, HO3, HBq⟩
        | succ k2 =>
         have hj : j < r.length := by have := HJ2.out; omega
         have hj2 : j < 2000 := by have := HRL.out; have := HL.out; omega
         have e5 : decide ((j : Int) < (r.length : Int)) = true := dT (by omega)
         have e6 : decide (j < r.length) = true := dT hj
         have hj0 : (0 : Int) ≤ (j : Int) := by omega
         have hj1 : (j : Int) < (r.length : Int) := by omega
         obtain ⟨ar, cr1, er, yr⟩ := int_cell HUq.out j hj
         cases er
         obtain ⟨x, hx⟩ : ∃ x, x = r.getD j 0 := ⟨_, rfl⟩
         rw [← hx] at yr
         have HXE := aM hx
         clear hx
         have h4 : x < -1 ∨ (-1 ≤ x ∧ (tags.length : Int) ≤ x) ∨ (-1 ≤ x ∧ x < (tags.length : Int)) := by omega
         rcases h4 with c | ⟨c, c2⟩ | ⟨c, c2⟩
         case' inl =>
          have q0 : q = false := by
           cases hq : q
           ·rfl
           ·have := (HF2.out hq).2.2 j hj; rw [← HXE.out] at this; omega
          have f3 : decide (x < -1) = true := dT c
         case' inr.inl =>
          have q0 : q = false := by
           cases hq : q
           ·rfl
           ·have := (HF2.out hq).2.2 j hj; rw [← HXE.out] at this; omega
          have f3 : decide (x < -1) = false := dF (by omega)
          have f4 : decide (x ≥ (tags.length : Int)) = true := dT c2
          have f5 : decide ((tags.length : Int) ≤ x) = true := dT c2
         case' inr.inr =>
          have f3 : decide (x < -1) = false := dF (by omega)
          have f4 : decide (x ≥ (tags.length : Int)) = false := dF (by omega)
          have f5 : decide ((tags.length : Int) ≤ x) = false := dF (by omega)
         case inr.inr =>
          have HO3 := aM (show ∀ a, a < j + 1 → -1 ≤ r.getD a 0 ∧ r.getD a 0 < (tags.length : Int) from fun a h => by
           rcases Nat.lt_or_ge a j with h1 | h1
           ·exact HO2.out a h1
           ·obtain rfl : a = j := by omega
            rw [← HXE.out]
            exact ⟨c, c2⟩)
          go_wp2_with fail
          go_roundg k2
          case measure => omega
          case rel => exact ⟨j + 1, by go_num, ⟨by have := HJ2.out; omega⟩, HO3, rfl⟩
         all_goals
          clear HF2 HF3 HQ
          subst q0
          go_wp2_with fail
          go_ret
          exact ⟨rfl, HBE.out _ HBq.out⟩
      all_goals
       clear HF2 HF3 HQ
       subst q0
       go_wp2_with fail
       go_quiet (fail)
       have HBq := aM (pw_below_drewN HB.out nq)
       go_wp2_with fail
       go_ret
       exact ⟨rfl, HBE.out _ HBq.out⟩
 all_goals
  clear HQ
  subst q0
  go_enter Tryz.func48, Tryz.ntmps48
  go_wp2_with fail
  go_ret
  exact ⟨rfl, below_alloc (Below.refl _ _) _⟩
end Go.Proofs.YtplhfgobeicegaaGreatDoor.P
