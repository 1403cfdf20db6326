/- Part 18 of the proof: S12g, S12h. -/
import Derived.Test.YtplhfgobeicegaaGreatDoorPd17
namespace Go.Proofs.YtplhfgobeicegaaGreatDoor.P
open Go Go.RowKit Go.Proofs.YtplhfgobeicegaaGreatDoorW.PrintWords Go.Proofs.YtplhfgobeicegaaGreatDoorW.PrintLast Go.Proofs.YtplhfgobeicegaaGreatDoorW.PrintMore Go.Proofs.YtplhfgobeicegaaGreatDoor.PX
set_option linter.unusedVariables false
set_option linter.unusedSimpArgs false
set_option maxRecDepth 100000
def reachS (x : Int) (p : List Int × List Int) : List Int × List Int := if 0 ≤ x ∧ p.2.getD x.toNat 0 < 0 then (p.1 ++ [x], p.2.set x.toNat (p.1.length : Int)) else p
def reachK (next : List (List Int)) (l of_ : List Int) (s : Nat) : List Int → List Int × List Int → List Int × List Int
 | [], p => p
 | k :: ks, p => reachK next l of_ s ks (reachS (kindL next l of_ s k.toNat) p)
def reachGo (next : List (List Int)) (l of_ order : List Int) : Nat → Nat → List Int × List Int → List Int × List Int
 | 0, _, p => p
 | f + 1, i, p => if i < p.1.length then reachGo next l of_ order f (i + 1) (reachK next l of_ (p.1.getD i 0).toNat order p) else p
def reachL (next : List (List Int)) (l of_ order : List Int) : List Int × List Int :=
 reachGo next l of_ order of_.length 0 ([of_.getD 0 0], (List.replicate of_.length (-1)).set (of_.getD 0 0).toNat 0)
def negs (l : List Int) : Nat := l.countP (fun x => decide (x < 0))
structure RQ (n : Nat) (p : List Int × List Int) : Prop where
 len : p.2.length = n
 sum : p.1.length + negs p.2 = n
 out : ∀ x ∈ p.1, 0 ≤ x ∧ x < (n : Int)
 at_ : ∀ x ∈ p.2, -1 ≤ x ∧ x < (p.1.length : Int)
theorem negs_set : ∀ (l : List Int) (i : Nat) (v : Int), i < l.length → l.getD i 0 < 0 → 0 ≤ v → negs (l.set i v) + 1 = negs l
 | [], i, v, h, _, _ => by simp at h
 | x :: t, 0, v, _, h, hv => by
  have h2 : x < 0 := h
  have h3 : ¬ v < 0 := by omega
  simp [negs, h2, h3]
 | x :: t, i + 1, v, h, h0, hv => by
  have ih := negs_set t i v (by simpa using h) h0 hv
  unfold negs at ih ⊢
  simp only [List.set_cons_succ, List.countP_cons]
  omega
theorem negs_rep (n : Nat) : negs (List.replicate n (-1)) = n := by
 unfold negs
 induction n with
 | zero => rfl
 | succ n ih => rw [List.replicate_succ, List.countP_cons, ih]; rfl
theorem mem_set_ {α : Type} {l : List α} {i : Nat} {v x : α} (h : x ∈ l.set i v) : x = v ∨ x ∈ l := by
 rcases List.mem_or_eq_of_mem_set h with h | h
 ·exact .inr h
 ·exact .inl h
theorem RQ.step {n : Nat} {p : List Int × List Int} (h : RQ n p) (x : Int) (hx : x < (n : Int)) : RQ n (reachS x p) := by
 unfold reachS
 split
 ·next c =>
  have hl : x.toNat < p.2.length := by rw [h.len]; omega
  refine ⟨by simp [h.len], ?_, ?_, ?_⟩
  ·have := negs_set p.2 x.toNat (p.1.length : Int) hl c.2 (by omega)
   have := h.sum
   simp only [lA, lS]
   omega
  ·intro y hy
   rcases List.mem_append.1 hy with hy | hy
   ·exact h.out y hy
   ·obtain rfl := List.mem_singleton.1 hy
    omega
  ·intro y hy
   simp only [lA, lS]
   rcases mem_set_ hy with rfl | hy
   ·omega
   ·have := h.at_ y hy
    omega
 ·exact h
theorem kindL_lt (next : List (List Int)) (l of_ : List Int) (i k n : Nat) (hof : ∀ x ∈ of_, 0 ≤ x ∧ x < (n : Int)) (hx : (next.getD i []).getD k 0 < (of_.length : Int)) : -1 ≤ kindL next l of_ i k ∧ kindL next l of_ i k < (n : Int) := by
 unfold kindL
 have := toL_lt next l i k (of_.length : Int) hx (by omega)
 split
 ·omega
 ·have := hof _ (mem_getD of_ 0 (toL next l i k).toNat (by omega))
  omega
theorem RQ.row {n : Nat} (next : List (List Int)) (l of_ : List Int) (s : Nat) (hof : ∀ x ∈ of_, 0 ≤ x ∧ x < (n : Int)) : ∀ (order : List Int) (p : List Int × List Int), RQ n p → (∀ k ∈ order, (next.getD s []).getD k.toNat 0 < (of_.length : Int)) → RQ n (reachK next l of_ s order p)
 | [], p, h, _ => h
 | k :: ks, p, h, hk => RQ.row next l of_ s hof ks _ (h.step _ (kindL_lt next l of_ s k.toNat n hof (hk k List.mem_cons_self)).2) (fun k' hk' => hk k' (List.mem_cons_of_mem _ hk'))
theorem RQ.init {n : Nat} {of_ : List Int} (hl : of_.length = n) (hn : 0 < n) (hof : ∀ x ∈ of_, 0 ≤ x ∧ x < (n : Int)) : RQ n ([of_.getD 0 0], (List.replicate n (-1)).set (of_.getD 0 0).toNat 0) := by
 have h0 := hof _ (mem_getD of_ 0 0 (by omega))
 have hg : (List.replicate n (-1 : Int)).getD (of_.getD 0 0).toNat 0 < 0 := by
  rw [List.getD_eq_getElem?_getD, List.getElem?_replicate, if_pos (by omega)]; decide
 refine ⟨by simp, ?_, ?_, ?_⟩
 ·have := negs_set (List.replicate n (-1)) (of_.getD 0 0).toNat 0 (by rw [List.length_replicate]; omega) hg (by omega)
  rw [negs_rep] at this
  simp only [lS]
  omega
 ·intro y hy
  obtain rfl := List.mem_singleton.1 hy
  exact h0
 ·intro y hy
  simp only [lS]
  rcases mem_set_ hy with rfl | hy
  ·omega
  ·have := List.eq_of_mem_replicate hy
   omega
theorem RQ.le {n : Nat} {p : List Int × List Int} (h : RQ n p) : p.1.length ≤ n := by have := h.sum; omega
theorem RQ.go {n : Nat} (next : List (List Int)) (l of_ order : List Int) (hof : ∀ x ∈ of_, 0 ≤ x ∧ x < (n : Int)) (hok : ∀ s : Nat, s < n → ∀ k ∈ order, (next.getD s []).getD k.toNat 0 < (of_.length : Int)) : ∀ f i p, RQ n p → RQ n (reachGo next l of_ order f i p) ∧ p.1.length ≤ (reachGo next l of_ order f i p).1.length := by
 have hrow : ∀ s (order : List Int) (p : List Int × List Int), p.1.length ≤ (reachK next l of_ s order p).1.length := by
  intro s order
  induction order with
  | nil => exact fun p => Nat.le_refl _
  | cons k ks ih =>
   intro p
   refine Nat.le_trans ?_ (ih _)
   unfold reachS
   split
   ·simp
   ·exact Nat.le_refl _
 intro f
 induction f with
 | zero => exact fun i p h => ⟨h, Nat.le_refl _⟩
 | succ f ih =>
  intro i p h
  unfold reachGo
  split
  ·next c =>
   have hs := h.out _ (mem_getD p.1 0 i c)
   have := ih (i + 1) _ (h.row next l of_ _ hof order p (fun k hk => hok (p.1.getD i 0).toNat (by omega) k hk))
   exact ⟨this.1, Nat.le_trans (hrow _ _ _) this.2⟩
  ·exact ⟨h, Nat.le_refl _⟩
theorem reach_rq (next : List (List Int)) (l of_ order : List Int) (hn : 0 < of_.length) (hof : ∀ x ∈ of_, 0 ≤ x ∧ x < (of_.length : Int)) (hok : ∀ s : Nat, s < of_.length → ∀ k ∈ order, (next.getD s []).getD k.toNat 0 < (of_.length : Int)) : RQ of_.length (reachL next l of_ order) ∧ 1 ≤ (reachL next l of_ order).1.length :=
 RQ.go next l of_ order hof hok of_.length 0 _ (RQ.init rfl hn hof)
theorem add_nil (a : Addr) : a.add 0 = a := by simp [Addr.add]
theorem fill_set (a b : Int) (i m : Nat) : (List.replicate i a ++ List.replicate (m + 1) b).set i a = List.replicate (i + 1) a ++ List.replicate m b := by
 rw [List.set_append, if_neg (by simp), List.length_replicate, Nat.sub_self, List.replicate_succ (n := m), List.set_cons_zero, List.replicate_succ', List.append_assoc]
 rfl
set_option maxHeartbeats 8000000 in
theorem reach_calls (X : Nat → Prop) (vp vn vt vl vo vr : Value) (parts : List (List Sp)) (next : List (List Int)) (tags l of_ order : List Int) (w : World) (hX : ∀ k, X k → k < w.heap.size) (hp : PV kSps X w vp parts) (hn : PV kRow X w vn next) (ht : PV kInt X w vt tags) (hl : PV kInt X w vl l) (ho : PV kInt X w vo of_) (hr : PV kInt X w vr order)
  (hn0 : 0 < of_.length) (hof : ∀ x ∈ of_, 0 ≤ x ∧ x < (of_.length : Int)) (hor : ∀ k ∈ order, 0 ≤ k ∧ k < (parts.length : Int)) (hol : of_.length = l.length) (hnl : next.length = l.length) (hok : Ok12 parts.length l.length next) (hlen : l.length ≤ 1000000) :
  Calls Tryz.prog 80 #[.agg #[vp, vn, vt], vl, vo, vr] w fun e w' => ∃ v1 v2, e = .returned (.tuple #[v1, v2]) ∧ PV kInt X w' v1 (reachL next l of_ order).1 ∧ PV kInt X w' v2 (reachL next l of_ order).2 ∧ Below w.heap.size w w' := by
 have H0 := aM hp
 have H1 := aM hn
 have H2 := aM ht
 have H3 := aM hl
 have H4 := aM ho
 have H5 := aM hr
 have mr := hr.max
 have HS := aM ((Sep.start hX).push_box [vp, vn, vt] 80)
 have HOK := aM hok
 have HOF := aM hof
 have HOR := aM hor
 have HLE := aM (show 0 < of_.length ∧ of_.length = l.length ∧ next.length = l.length ∧ l.length ≤ 1000000 from ⟨hn0, hol, hnl, hlen⟩)
 obtain ⟨Ap, cp, rfl, _, _⟩ := hp.now
 obtain ⟨An, cn, rfl, _, _⟩ := hn.now
 obtain ⟨At, ct, rfl, _, _⟩ := ht.now
 obtain ⟨Al, cl, rfl, _, _⟩ := hl.now
 obtain ⟨ao, co, rfl, yo0⟩ := int_cell ho 0 hn0
 obtain ⟨Ar, cr, rfl, _, _⟩ := hr.now
 have hlen2 : of_.length ≤ 1000000 := by omega
 have h00 := hof _ (mem_getD of_ 0 0 hn0)
 obtain ⟨r, hr⟩ : ∃ r, r = reachL next l of_ order := ⟨_, rfl⟩
 rw [← hr]
 unfold reachL at hr
 have HI := aM (RQ.init rfl hn0 hof)
 generalize ho0x : of_.getD 0 0 = o0 at *
 obtain ⟨n0, rfl⟩ := Int.eq_ofNat_of_zero_le h00.1
 rw [Int.toNat_natCast] at hr HI
 have HR := aM hr.symm
 have HO0 := aM ho0x
 have h01 : n0 < of_.length := by omega
 have ho0 : (0 : Int) < (of_.length : Int) := by omega
 have hn00 : (0 : Int) ≤ (n0 : Int) := by omega
 have hn01 : (n0 : Int) < (of_.length : Int) := by omega
 have yo1 := pw_cell_below (below_alloc (Below.refl _ _) (.cells #[.slice Ap parts.length cp, .slice An next.length cn, .slice At tags.length ct] 80)) yo0
 rw [add_nil] at yo1
 clear hp hn ht hl ho hX hok hof hor hol hnl hlen hn0 h00 hr yo0
 go_enter Tryz.func80, Tryz.ntmps80
 go_wp2_with (first
  | ((with_reducible refine gate_dst (N := 19) rfl ?_); refine slit_row kInt 3 ?hg (N := 19) ?hd (xs := [(n0 : Int)]) (inner := [.int .i64 (n0 : Int)]) ?hr HS.out ?hp (by simp) ?_; (case hd => rfl); (case hg => rfl); (case hr => first | (go_simp; done) | (go_simp; rfl)); (case hp => exact Reps.one (PK.scalar _) (Reps.none _ _)); clear HS; intro v10 w10 hs; have HS := aM hs; clear hs)
  | ((with_reducible refine gate_dst (N := 22) rfl ?_); refine smake .i64 3 rfl (N := 22) rfl 26 (.tmp 21) (.tmp 21) rfl of_.length rfl rfl Tryz.underlying26 8 info3' (by omega) (by omega) HS.out ?_; clear HS; intro v11 w11 hs; have HS := aM hs; clear hs))
 clear yo1
 go_loopg [12] of_.length (fun m v12 w' => ∃ (i : Nat) (o : List Int), v12 = .int .i64 i ∧ Aside0 (i + m = of_.length) ∧ Aside0 (o = List.replicate i (-1) ++ List.replicate m 0) ∧ Aside0 (Sep X w w' [.box w.heap.size 80 [.slice Ap parts.length cp, .slice An next.length cn, .slice At tags.length ct], .row kInt 3 v10 [(n0 : Int)], .row kInt 3 v11 o]))
 case atStart => exact ⟨0, _, rfl, ⟨by omega⟩, ⟨rfl⟩, HS⟩
 case round =>
  clear HS
  obtain ⟨i, o, rfl, HJ, HO, HS⟩ := hrel
  have HOL := aM (show o.length = of_.length by rw [HO.out]; have := HJ.out; simp; omega)
  obtain ⟨A11, c11, e11⟩ := HS.out.form 2 rfl
  rw [HOL.out] at e11
  subst e11
  cases gk with
  | succ k1 =>
   have hi : i < of_.length := by have := HJ.out; omega
   have e1 : decide ((i : Int) < (of_.length : Int)) = true := dT (by omega)
   have e2 : decide (i < of_.length) = true := dT hi
   have hi0 : (0 : Int) ≤ (i : Int) := by omega
   have hi1 : (i : Int) < (of_.length : Int) := by omega
   obtain ⟨g, cg, eg, yi, fi, hset⟩ := HS.out.int 2 rfl i (by have := HOL.out; omega)
   rw [HOL.out] at eg
   cases eg
   have HSET := aM (hset (-1))
   have HO2 := aM (show o.set i (-1) = List.replicate (i + 1) (-1) ++ List.replicate k1 0 by rw [HO.out]; exact fill_set _ _ _ _)
   clear hset
   go_wp2_with fail
   go_roundg k1
   case measure => omega
   case rel => exact ⟨i + 1, _, by go_num, ⟨by have := HJ.out; omega⟩, HO2, HSET⟩
  | zero =>
   have e1 : decide ((i : Int) < (of_.length : Int)) = false := dF (by have := HJ.out; omega)
   have e2 : decide (i < of_.length) = false := dF (by have := HJ.out; omega)
   have HO2 := aM (show o = List.replicate of_.length (-1) by rw [HO.out, show i = of_.length by have := HJ.out; omega]; simp)
   obtain ⟨g, cg, eg, yi, fi, hset⟩ := HS.out.int 2 rfl n0 (by have := HOL.out; omega)
   rw [HOL.out] at eg
   cases eg
   obtain ⟨ao', co', ea, yo⟩ := int_cell (HS.out.arg H4.out) 0 HLE.out.1
   cases ea
   rw [add_nil, HO0.out] at yo
   have HSET := aM (hset 0)
   have HP := aM (show RQ of_.length ([(n0 : Int)], o.set n0 0) by rw [HO2.out]; exact HI.out)
   have HR2 := aM (show reachGo next l of_ order of_.length 0 ([(n0 : Int)], o.set n0 0) = r by rw [HO2.out]; exact HR.out)
   clear hset HO HOL HS HI HR
   go_wp2_with fail
   clear yo yi fi e1 e2
   go_loopg [10, 13] of_.length (fun m v10 v13 w' => ∃ (i : Nat) (p : List Int × List Int), v13 = .int .i64 i ∧ Aside0 (i + m = of_.length) ∧ Aside0 (RQ of_.length p) ∧ Aside0 (reachGo next l of_ order m i p = r) ∧ Aside0 (Sep X w w' [.box w.heap.size 80 [.slice Ap parts.length cp, .slice An next.length cn, .slice At tags.length ct], .row kInt 3 v10 p.1, .row kInt 3 (.slice (some ⟨g, 0, none⟩) of_.length c11) p.2]))
   case atStart => exact ⟨0, ([(n0 : Int)], o.set n0 0), rfl, ⟨by omega⟩, HP, HR2, HSET⟩
   case round =>
    clear HSET HP HR2 HO2
    obtain ⟨i, p, rfl, HJ, HP, HR, HS⟩ := hrel
    have HPL := aM HP.out.le
    obtain ⟨A10, c10, e10⟩ := HS.out.form 1 rfl
    subst e10
    by_cases hi : i < p.1.length
    case neg =>
     have e1 : decide ((i : Int) < (p.1.length : Int)) = false := dF (by omega)
     have e2 : decide (i < p.1.length) = false := dF (by omega)
     have q0 : p = r := by
      have := HR.out
      cases gk with
      | zero => exact this
      | succ f => rw [reachGo, if_neg hi] at this; exact this
     clear HR
     subst q0
     go_wp2_with fail
     go_ret2
     exact ⟨_, _, rfl, HS.out.res_row 1 rfl, HS.out.res_row 2 rfl, HS.out.below⟩
    case pos =>
     cases gk with
     | zero => have := HJ.out; have := HPL.out; omega
     | succ k1 =>
      have e1 : decide ((i : Int) < (p.1.length : Int)) = true := dT (by omega)
      have e2 : decide (i < p.1.length) = true := dT hi
      have hi0 : (0 : Int) ≤ (i : Int) := by omega
      have hsx := HP.out.out _ (mem_getD p.1 0 i hi)
      have HR1 := HR.out
      rw [reachGo, if_pos hi] at HR1
      obtain ⟨s, hs⟩ : ∃ s : Nat, p.1.getD i 0 = (s : Int) := ⟨(p.1.getD i 0).toNat, by omega⟩
      rw [hs, Int.toNat_natCast] at HR1
      have HSN := aM (show s < of_.length by omega)
      have HSX := aM hs
      obtain ⟨p', hp'⟩ : ∃ q, q = reachK next l of_ s order p := ⟨_, rfl⟩
      rw [← hp'] at HR1
      have HR2 := aM HR1
      have HRK := aM (show reachK next l of_ s (order.drop 0) p = p' from hp'.symm)
      have HPI := aM (show p.1.getD i 0 = (s : Int) ∧ i < p.1.length from ⟨hs, hi⟩)
      clear hsx HR1 HR hs hp' HSX e1
      go_wp2_with fail
      clear e2 hi
      go_loopg [10, 14] order.length (fun m v10 v14 w' => ∃ (k : Nat) (q : List Int × List Int), v14 = .int .i64 k ∧ Aside0 (k + m = order.length) ∧ Aside0 (RQ of_.length q) ∧ Aside0 (q.1.getD i 0 = (s : Int) ∧ i < q.1.length) ∧ Aside0 (reachK next l of_ s (order.drop k) q = p') ∧ Aside0 (Sep X w w' [.box w.heap.size 80 [.slice Ap parts.length cp, .slice An next.length cn, .slice At tags.length ct], .row kInt 3 v10 q.1, .row kInt 3 (.slice (some ⟨g, 0, none⟩) of_.length c11) q.2]))
      case atStart => exact ⟨0, p, rfl, ⟨by omega⟩, HP, HPI, HRK, HS⟩
      case round =>
       clear HRK HP HPI HS HPL
       obtain ⟨k, q, rfl, HK, HP, HPI, HRK, HS⟩ := hrel
       obtain ⟨A10, c10, e10⟩ := HS.out.form 1 rfl
       subst e10
       cases gk with
       | zero =>
        have e1 : decide ((k : Int) < (order.length : Int)) = false := dF (by have := HK.out; omega)
        have e2 : decide (k < order.length) = false := dF (by have := HK.out; omega)
        have q0 : q = p' := by
         have := HRK.out
         rw [List.drop_eq_nil_of_le (by have := HK.out; omega)] at this
         exact this
        clear HRK
        subst q0
        have hib : i < of_.length := by have := HPI.out.2; have := HP.out.le; omega
        go_wp2_with fail
        go_roundg k1
        case measure => omega
        case rel => exact ⟨i + 1, q, by go_num, ⟨by have := HJ.out; omega⟩, HP, HR2, HS⟩
       | succ k2 =>
        have hk : k < order.length := by have := HK.out; omega
        have e1 : decide ((k : Int) < (order.length : Int)) = true := dT (by omega)
        have e2 : decide (k < order.length) = true := dT hk
        have hk0 : (0 : Int) ≤ (k : Int) := by omega
        have hk1 : (k : Int) < (order.length : Int) := by omega
        have hiq : (i : Int) < (q.1.length : Int) := by have := HPI.out.2; omega
        have hord := HOR.out _ (mem_getD order 0 k hk)
        obtain ⟨ar, cr', er, yr0⟩ := int_cell (HS.out.arg H5.out) k hk
        cases er
        obtain ⟨gi, ci, ei, yi0, _, _⟩ := HS.out.int 1 rfl i HPI.out.2
        cases ei
        rw [HPI.out.1] at yi0
        have HRK1 := HRK.out
        rw [drop_at order 0 k hk, reachK] at HRK1
        generalize order.getD k 0 = kk at *
        obtain ⟨kn, rfl⟩ := Int.eq_ofNat_of_zero_le hord.1
        rw [Int.toNat_natCast] at HRK1
        have HKN := aM (show kn < parts.length by omega)
        obtain ⟨x, hx⟩ : ∃ x, x = kindL next l of_ s kn := ⟨_, rfl⟩
        rw [← hx] at HRK1
        have HX1 := aM hx.symm
        have HXR := aM (show -1 ≤ x ∧ x < (of_.length : Int) by rw [hx]; exact kindL_lt next l of_ s kn of_.length HOF.out (by have := (HOK.out s (by have := HSN.out; have := HLE.out; omega)).2 kn HKN.out; have := HLE.out; omega))
        have HRK2 := aM HRK1
        clear hord hx HRK1 HRK
        have y0 := (HS.out.box 0 rfl).cell 0 rfl
        have y1 := (HS.out.box 0 rfl).cell 1 rfl
        have y2 := (HS.out.box 0 rfl).cell 2 rfl
        have HBd := aM (below_drew (Below.refl wr.heap.size wr))
        have yd0 := pw_cell_below HBd.out y0
        have yd1 := pw_cell_below HBd.out y1
        have yd2 := pw_cell_below HBd.out y2
        have yd3 := pw_cell_below HBd.out yi0
        have yd4 := pw_cell_below HBd.out yr0
        have HD := aM (fun (W : World) (hb : Below wr.heap.size wr W) => kind_calls (Ys X _) (.slice Ap parts.length cp) (.slice An next.length cn) (.slice At tags.length ct) (.slice Al l.length cl) (.slice (some ao) of_.length co) parts next tags l of_ s kn W (((HS.out.call hb).arg H0.out)) ((HS.out.call hb).arg H1.out) ((HS.out.call hb).arg H2.out) ((HS.out.call hb).arg H3.out) ((HS.out.call hb).arg H4.out) (by have := HSN.out; have := HLE.out; omega) (by rw [(HOK.out s (by have := HSN.out; have := HLE.out; omega)).1]; exact HKN.out) ((HOK.out s (by have := HSN.out; have := HLE.out; omega)).2 kn HKN.out) HLE.out.2.1)
        clear y0 y1 y2 yi0 yr0
        go_wp2_with fail
        refine start_ (n := 13) (S := fun w' => w'.cell? ⟨w.heap.size, 0, none⟩ = some (.slice Ap parts.length cp) ∧ w'.cell? ⟨w.heap.size, 1, none⟩ = some (.slice An next.length cn) ∧ w'.cell? ⟨w.heap.size, 2, none⟩ = some (.slice At tags.length ct) ∧ w'.cell? ⟨gi, i, none⟩ = some (.int .i64 (s : Int)) ∧ w'.cell? (ar.add k) = some (.int .i64 (kn : Int))) (ds := []) #[false, false, false, false, false, false, false, false, false, false, false, false, false] (by kernel_rfl) rfl rfl ⟨yd0, yd1, yd2, yd3, yd4⟩ (fun hHeld => ?_)
        refine pure_ (i := 1) (N := some 50) (v := ?_) (a' := ?_) (bv 13 2) rfl rfl (by kernel_rfl) (fun _ _ _ h => h) (Or.inl ⟨by rfl, ?_⟩) ?_ ?_
        rotate_left
        ·intro w'
         go_simp
         with_reducible rfl
        rotate_left
        ·simp only [Act.put, qA, qB, qC, i64_w, i32_w]
         rfl
        refine pure_ (i := 2) (N := some 51) (v := ?_) (a' := ?_) (bv 13 6) rfl rfl (by kernel_rfl) (fun _ _ _ h => h) (Or.inl ⟨by rfl, ?_⟩) ?_ ?_
        rotate_left
        ·intro w'
         go_simp
         with_reducible rfl
        rotate_left
        ·simp only [Act.put, qA, qB, qC, i64_w, i32_w]
         rfl
        refine pure_ (i := 3) (N := some 52) (v := ?_) (a' := ?_) (bv 13 14) rfl rfl (by kernel_rfl) (fun _ _ _ h => h) (Or.inl ⟨by rfl, ?_⟩) ?_ ?_
        rotate_left
        ·intro w'
         go_simp
         with_reducible rfl
        rotate_left
        ·simp only [Act.put, qA, qB, qC, i64_w, i32_w]
         rfl
        refine pure_ (i := 4) (N := some 53) (v := ?_) (a' := ?_) (bv 13 30) rfl rfl (by kernel_rfl) (fun _ _ _ h => h) (Or.inl ⟨by rfl, ?_⟩) ?_ ?_
        rotate_left
        ·intro w'
         go_simp
         with_reducible rfl
        rotate_left
        ·simp only [Act.put, qA, qB, qC, i64_w, i32_w]
         rfl
        refine pure_ (i := 5) (N := some 54) (v := ?_) (a' := ?_) (bv 13 62) rfl rfl (by kernel_rfl) (fun _ _ _ h => h) (Or.inl ⟨by rfl, ?_⟩) ?_ ?_
        rotate_left
        ·intro w'
         go_simp
         with_reducible rfl
        rotate_left
        ·simp only [Act.put, qA, qB, qC, i64_w, i32_w]
         rfl
        refine pure_ (i := 7) (N := some 56) (v := ?_) (a' := ?_) (bv 13 190) rfl rfl (by kernel_rfl) (fun _ _ _ h => h) (Or.inl ⟨by rfl, ?_⟩) ?_ ?_
        rotate_left
        ·intro w'
         go_simp
         with_reducible rfl
        rotate_left
        ·simp only [Act.put, qA, qB, qC, i64_w, i32_w]
         rfl
        refine pure_ (i := 8) (N := some 57) (v := ?_) (a' := ?_) (bv 13 446) rfl rfl (by kernel_rfl) (fun _ _ _ h => h) (Or.inl ⟨by rfl, ?_⟩) ?_ ?_
        rotate_left
        ·intro w'
         go_simp
         with_reducible rfl
        rotate_left
        ·simp only [Act.put, qA, qB, qC, i64_w, i32_w]
         rfl
        refine pure_ (i := 9) (N := some 58) (v := ?_) (a' := ?_) (bv 13 958) rfl rfl (by kernel_rfl) (fun _ _ _ h => h) (Or.inl ⟨by rfl, ?_⟩) ?_ ?_
        rotate_left
        ·intro w'
         go_simp
         with_reducible rfl
        rotate_left
        ·simp only [Act.put, qA, qB, qC, i64_w, i32_w]
         rfl
        refine take_ (i := 0) (N := some 49) (v := ?_) (a' := ?_) (bv 13 959) rfl rfl (by kernel_rfl) (fun _ _ _ h => h) (Or.inl ⟨by rfl, ?_⟩) hHeld ?_ ?_
        rotate_left
        ·rintro w' ⟨s0, s1, s2, s3, s4⟩
         go_simp
         with_reducible rfl
        rotate_left
        ·simp only [Act.put, qA, qB, qC, i64_w, i32_w]
         rfl
        refine take_ (i := 6) (N := some 55) (v := ?_) (a' := ?_) (bv 13 1023) rfl rfl (by kernel_rfl) (fun _ _ _ h => h) (Or.inl ⟨by rfl, ?_⟩) hHeld ?_ ?_
        rotate_left
        ·rintro w' ⟨s0, s1, s2, s3, s4⟩
         go_simp
         with_reducible rfl
        rotate_left
        ·simp only [Act.put, qA, qB, qC, i64_w, i32_w]
         rfl
        refine take_ (i := 10) (N := some 59) (v := ?_) (a' := ?_) (bv 13 2047) rfl rfl (by kernel_rfl) (fun _ _ _ h => h) (Or.inl ⟨by rfl, ?_⟩) hHeld ?_ ?_
        rotate_left
        ·rintro w' ⟨s0, s1, s2, s3, s4⟩
         go_simp
         with_reducible rfl
        rotate_left
        ·simp only [Act.put, qA, qB, qC, i64_w, i32_w]
         rfl
        refine one_ (i := 11) (N := some 60) (bv 13 4095) rfl rfl (by kernel_rfl) (by decide) (fun K hK => ?_)
        refine goes_ Tryz.func83 (by kernel_rfl) rfl #[.agg #[.slice Ap parts.length cp, .slice An next.length cn, .slice At tags.length ct], .slice Al l.length cl, .slice (some ao) of_.length co, .int .i64 (s : Int), .int .i64 (kn : Int)] (by rfl) rfl rfl (by simp only [List.map_toArray, List.map_cons, List.map_nil]; rfl) ?_
        with_reducible refine (HD.out _ HBd.out).mono ?_
        rintro e w5 ⟨rfl, hb5⟩
        refine ⟨_, rfl, ?_⟩
        rw [HX1.out]
        have HB5 := aM (below_step HBd.out hb5)
        have z0 := pw_cell_below hb5 hHeld.1
        have z1 := pw_cell_below hb5 hHeld.2.1
        have z2 := pw_cell_below hb5 hHeld.2.2.1
        have z3 := pw_cell_below hb5 hHeld.2.2.2.1
        have z4 := pw_cell_below hb5 hHeld.2.2.2.2
        clear hb5 hHeld
        refine hK.out _ _ ⟨z0, z1, z2, z3, z4⟩ (fun hHeld => ?_)
        clear hK K
        refine norm_ (a' := ?_) ?_ ?_
        rotate_left
        ·show Act.put _ (some 60) _ = _
         simp only [Act.put, qA, qB, qC, i64_w, i32_w]
         rfl
        refine pure_ (i := 12) (N := some 15) (v := ?_) (a' := ?_) (bv 13 8191) rfl rfl (by kernel_rfl) (fun _ _ _ h => h) (Or.inl ⟨by rfl, ?_⟩) ?_ ?_
        rotate_left
        ·intro w'
         go_simp
         with_reducible rfl
        rotate_left
        ·simp only [Act.put, qA, qB, qC, i64_w, i32_w]
         rfl
        refine done_ (by kernel_rfl) ?_
        clear hHeld z0 z1 z2 z3 z4 yd0 yd1 yd2 yd3 yd4 HD
        have HS5 := aM (HS.out.call HB5.out)
        rcases Int.lt_or_le x 0 with c | c
        case inl =>
         have d1 : decide (x ≥ 0) = false := dF (by omega)
         have d2 : decide (0 ≤ x) = false := dF (by omega)
         have HRK3 := aM (show reachK next l of_ s (order.drop (k + 1)) q = p' by have := HRK2.out; rwa [reachS, if_neg (fun h => by omega)] at this)
         go_wp2_with fail
         go_roundg k2
         case measure => omega
         case rel => exact ⟨k + 1, q, by go_num, ⟨by have := HK.out; omega⟩, HP, HPI, HRK3, HS5⟩
        case inr =>
         obtain ⟨n, rfl⟩ := Int.eq_ofNat_of_zero_le c
         have d1 : decide ((n : Int) ≥ 0) = true := dT (by omega)
         have d2 : decide (0 ≤ (n : Int)) = true := dT (by omega)
         have hnl := HXR.out.2
         obtain ⟨g2, cg2, eg2, yn, fn, hset⟩ := HS5.out.int 2 rfl n (by have := HP.out.len; omega)
         rw [HP.out.len] at eg2
         cases eg2
         have hn0 : (0 : Int) ≤ (n : Int) := by omega
         have HST := aM (HP.out.step (n : Int) HXR.out.2)
         have HSET := aM (hset (q.1.length : Int))
         obtain ⟨z, hz⟩ : ∃ z, z = q.2.getD n 0 := ⟨_, rfl⟩
         rw [← hz] at yn
         rw [reachS, Int.toNat_natCast, ← hz] at HRK2
         rw [reachS, Int.toNat_natCast, ← hz] at HST
         clear hset hz
         rcases Int.lt_or_le z 0 with c2 | c2
         case inl =>
          have d3 : decide (z < 0) = true := dT c2
          have HP2 := aM (show RQ of_.length (q.1 ++ [(n : Int)], q.2.set n (q.1.length : Int)) by have := HST.out; rwa [if_pos ⟨c, c2⟩] at this)
          have HRK3 := aM (show reachK next l of_ s (order.drop (k + 1)) (q.1 ++ [(n : Int)], q.2.set n (q.1.length : Int)) = p' by have := HRK2.out; rwa [if_pos ⟨c, c2⟩] at this)
          have HPI2 := aM (show (q.1 ++ [(n : Int)]).getD i 0 = (s : Int) ∧ i < (q.1 ++ [(n : Int)]).length by
           refine ⟨?_, by simp; have := HPI.out.2; omega⟩
           rw [List.getD_eq_getElem?_getD, List.getElem?_append_left HPI.out.2, ← List.getD_eq_getElem?_getD]
           exact HPI.out.1)
          have HQL := aM HP.out.le
          clear HS HS5 HRK2 HST c c2
          have HS := HSET
          clear HSET
          go_wp2_with (first
           | ((with_reducible refine gate_dst (N := 77) rfl ?_); refine slit kInt 3 ?hg (N := 77) ?hd (xs := [(n : Int)]) (inner := [.int .i64 (n : Int)]) ?hr HS.out ?hp (by simp) ?_; (case hd => rfl); (case hg => rfl); (case hr => first | (go_simp; done) | (go_simp; rfl)); (case hp => exact Reps.one (PK.scalar _) (Reps.none _ _)); clear HS; intro v7 w7 hs; have HS := aM hs; clear hs)
           | ((with_reducible refine gate_builtin (b := .append) (xs := #[.tmp 75, .tmp 77]) rfl ?_); at_builtin; refine sgrow kInt 1 rfl (.tmp 75) (.tmp 77) 26 3 (.int .i64 0) 8 rfl Tryz.underlying26 info3' rfl (by decide) (by omega) _ _ q.1 [(n : Int)] rfl rfl HS.out rfl (HS.out.ro 3 rfl) (by have := HQL.out; simp; omega) ?_; clear HS; intro v8 w8 hs; have HS := aM hs; clear hs))
          go_roundg k2
          case measure => omega
          case rel => exact ⟨k + 1, _, by go_num, ⟨by have := HK.out; omega⟩, HP2, HPI2, HRK3, ⟨HS.out.take 3⟩⟩
         case inr =>
          have d3 : decide (z < 0) = false := dF (by omega)
          have HRK3 := aM (show reachK next l of_ s (order.drop (k + 1)) q = p' by have := HRK2.out; rwa [if_neg (fun h => by omega)] at this)
          clear HSET HST
          go_wp2_with fail
          go_roundg k2
          case measure => omega
          case rel => exact ⟨k + 1, q, by go_num, ⟨by have := HK.out; omega⟩, HP, HPI, HRK3, HS5⟩
def bareR : List (List Sp) → List Int → List Int
 | p :: ps, x :: xs => if 0 < p.length then x :: bareR ps xs else bareR ps xs
 | _, _ => []
def bareP (parts : List (List Sp)) : List (List Sp) := parts.filter (fun p => decide (0 < p.length))
theorem bareR_cut (parts : List (List Sp)) (row : List Int) (k : Nat) (h : k < parts.length) (hr : row.length = parts.length) : bareR (parts.drop k) (row.drop k) = if 0 < (parts.getD k []).length then row.getD k 0 :: bareR (parts.drop (k + 1)) (row.drop (k + 1)) else bareR (parts.drop (k + 1)) (row.drop (k + 1)) := by
 rw [drop_at parts [] k h, drop_at row 0 k (by omega), bareR]
set_option maxHeartbeats 8000000 in
theorem bare_calls (X : Nat → Prop) (vp vn vt : Value) (parts : List (List Sp)) (next : List (List Int)) (tags : List Int) (w : World) (hX : ∀ k, X k → k < w.heap.size) (hp : PV kSps X w vp parts) (hn : PV kRow X w vn next) (ht : PV kInt X w vt tags)
  (hrow : ∀ i, i < next.length → (next.getD i []).length = parts.length) (hpl : parts.length ≤ 100000) (hnl : next.length ≤ 1000000) :
  Calls Tryz.prog 77 #[.agg #[vp, vn, vt]] w fun e w' => ∃ vp' vn', e = .returned (.agg #[vp', vn', vt]) ∧ PV kSps X w' vp' (bareP parts) ∧ PV kRow X w' vn' (next.map (bareR parts)) ∧ Below w.heap.size w w' := by
 have H0 := aM hp
 have H1 := aM hn
 have H2 := aM ht
 have HROW := aM hrow
 obtain ⟨Ap, cp, rfl, _, _⟩ := hp.now
 obtain ⟨An, cn, rfl, _, _⟩ := hn.now
 obtain ⟨At, ct, rfl, _, _⟩ := ht.now
 have HP0 := aM (show [] ++ (parts.drop 0).filter (fun p => decide (0 < p.length)) = bareP parts from rfl)
 have HN0 := aM (show [] ++ (next.drop 0).map (bareR parts) = next.map (bareR parts) from rfl)
 generalize bareP parts = rp at *
 generalize next.map (bareR parts) = rn at *
 have HS := aM (((((Sep.start hX).push_box [.slice Ap parts.length cp, .slice An next.length cn, .slice At tags.length ct] 80).push_box' [.slice none 0 0, .slice none 0 0, .slice none 0 0] 80 (w.heap.size + 1) (by simp)).push_box' [.slice none 0 0, .slice none 0 0, .slice At tags.length ct] 80 (w.heap.size + 1 + 1) (by simp)).push_nil kSps 91 |>.push_nil kRow 26)
 clear hp hn ht hX hrow
 go_enter Tryz.func77, Tryz.ntmps77
 go_wp2_with fail
 obtain ⟨g3, hg3⟩ : ∃ g, g = w.heap.size + 1 + 1 := ⟨_, rfl⟩
 obtain ⟨g2, hg2⟩ : ∃ g, g = w.heap.size + 1 := ⟨_, rfl⟩
 obtain ⟨g1, hg1⟩ : ∃ g, g = w.heap.size := ⟨_, rfl⟩
 rw [← hg3, ← hg2, ← hg1] at HS ⊢
 clear hg1 hg2 hg3
 go_loopg [4] parts.length (fun m v4 w' => ∃ (k : Nat) (vP : Value) (P : List (List Sp)), v4 = .int .i64 k ∧ Aside0 (k + m = parts.length ∧ P.length ≤ k) ∧ Aside0 (P ++ (parts.drop k).filter (fun p => decide (0 < p.length)) = rp) ∧ Aside0 (Sep X w w' [.box g1 80 [.slice Ap parts.length cp, .slice An next.length cn, .slice At tags.length ct], .box g2 80 [.slice none 0 0, .slice none 0 0, .slice none 0 0], .box g3 80 [vP, (.slice none 0 0), .slice At tags.length ct], .row kSps 91 vP P, .row kRow 26 (.slice none 0 0) []]))
 case atStart => exact ⟨0, _, [], rfl, ⟨by omega, by simp⟩, HP0, HS⟩
 case round =>
  clear HS HP0
  obtain ⟨k, vP, P, rfl, HJ, HP, HS⟩ := hrel
  have y0 := ((HS.out.box 0 rfl).cell 0 rfl)
  cases gk with
  | succ k1 =>
   have hk : k < parts.length := by have := HJ.out; omega
   have e1 : decide ((k : Int) < (parts.length : Int)) = true := dT (by omega)
   have e2 : decide (k < parts.length) = true := dT hk
   have hk0 : (0 : Int) ≤ (k : Int) := by omega
   have hk1 : (k : Int) < (parts.length : Int) := by omega
   obtain ⟨ap, cp', u, ep, hu, yp⟩ := H0.out.row k hk
   cases ep
   obtain ⟨Au, cu, rfl, _, _⟩ := hu.now
   have HU := aM hu
   have HY := aM yp
   have yp1 := pw_cell_below HS.out.below yp
   have HP1 := HP.out
   rw [drop_at parts [] k hk, List.filter_cons] at HP1
   generalize parts.getD k [] = p at *
   clear hu yp
   rcases Nat.eq_zero_or_pos p.length with c | c
   case inl =>
    have d1 : decide ((p.length : Int) > 0) = false := dF (by omega)
    have d2 : decide (0 < p.length) = false := dF (by omega)
    have d4 : decide (0 < (p.length : Int)) = false := dF (by omega)
    have d3 : p.length ≤ 0 := by omega
    have HP2 := aM (show P ++ (parts.drop (k + 1)).filter (fun p => decide (0 < p.length)) = rp by rw [d2, if_neg (by decide)] at HP1; exact HP1)
    clear HP1
    go_wp2_with fail
    go_roundg k1
    case measure => omega
    case rel => exact ⟨k + 1, vP, P, by go_num, ⟨by have := HJ.out; omega, by have := HJ.out; omega⟩, HP2, HS⟩
   case inr =>
    have d1 : decide ((p.length : Int) > 0) = true := dT (by omega)
    have d4 : decide (0 < (p.length : Int)) = true := dT (by omega)
    have d2 : decide (0 < p.length) = true := dT (by omega)
    have HP2 := aM (show (P ++ [p]) ++ (parts.drop (k + 1)).filter (fun p => decide (0 < p.length)) = rp by rw [d2, if_pos rfl] at HP1; rw [List.append_assoc]; exact HP1)
    have HPL := aM (show (P.length + 1) * 24 ≤ 140737488355328 by have := HJ.out; omega)
    clear HP1
    go_wp2_with fail
    clear y0 yp1
    have hs := HS.out.drew
    clear HS; have HS := aM hs; clear hs
    refine start_ (n := 11) (S := fun w' => w'.cell? ⟨g3, 0, none⟩ = some vP ∧ w'.cell? ⟨g1, 0, none⟩ = some (.slice (some ap) parts.length cp) ∧ w'.cell? (ap.add k) = some (.slice Au p.length cu)) (ds := [8, 10]) #[false, false, false, false, false, false, false, false, false, false, false] (by kernel_rfl) rfl rfl ⟨((HS.out.box 2 rfl).cell 0 rfl), ((HS.out.box 0 rfl).cell 0 rfl), (pw_cell_below HS.out.below HY.out)⟩ (fun hHeld => ?_)
    refine pure_ (i := 0) (N := some 25) (v := ?_) (a' := ?_) (bv 11 1) rfl rfl (by kernel_rfl) (fun _ _ _ h => h) (Or.inl ⟨by rfl, ?_⟩) ?_ ?_
    rotate_left
    ·intro w'
     go_simp
     with_reducible rfl
    rotate_left
    ·simp only [Act.put, qA, qB, qC, i64_w, i32_w]
     rfl
    refine pure_ (i := 2) (N := some 27) (v := ?_) (a' := ?_) (bv 11 5) rfl rfl (by kernel_rfl) (fun _ _ _ h => h) (Or.inl ⟨by rfl, ?_⟩) ?_ ?_
    rotate_left
    ·intro w'
     go_simp
     with_reducible rfl
    rotate_left
    ·simp only [Act.put, qA, qB, qC, i64_w, i32_w]
     rfl
    refine pure_ (i := 4) (N := some 29) (v := ?_) (a' := ?_) (bv 11 21) rfl rfl (by kernel_rfl) (fun _ _ _ h => h) (Or.inl ⟨by rfl, ?_⟩) ?_ ?_
    rotate_left
    ·intro w'
     go_simp
     with_reducible rfl
    rotate_left
    ·simp only [Act.put, qA, qB, qC, i64_w, i32_w]
     rfl
    refine take_ (i := 1) (N := some 26) (v := ?_) (a' := ?_) (bv 11 23) rfl rfl (by kernel_rfl) (fun _ _ _ h => h) (Or.inl ⟨by rfl, ?_⟩) hHeld ?_ ?_
    rotate_left
    ·rintro w' ⟨s0, s1, s2⟩
     go_simp
     with_reducible rfl
    rotate_left
    ·simp only [Act.put, qA, qB, qC, i64_w, i32_w]
     rfl
    refine take_ (i := 3) (N := some 28) (v := ?_) (a' := ?_) (bv 11 31) rfl rfl (by kernel_rfl) (fun _ _ _ h => h) (Or.inl ⟨by rfl, ?_⟩) hHeld ?_ ?_
    rotate_left
    ·rintro w' ⟨s0, s1, s2⟩
     go_simp
     with_reducible rfl
    rotate_left
    ·simp only [Act.put, qA, qB, qC, i64_w, i32_w]
     rfl
    refine pure_ (i := 5) (N := some 30) (v := ?_) (a' := ?_) (bv 11 63) rfl rfl (by kernel_rfl) (fun _ _ _ h => h) (Or.inl ⟨by rfl, ?_⟩) ?_ ?_
    rotate_left
    ·intro w'
     go_simp
     with_reducible rfl
    rotate_left
    ·simp only [Act.put, qA, qB, qC, i64_w, i32_w]
     rfl
    refine take_ (i := 6) (N := some 31) (v := ?_) (a' := ?_) (bv 11 127) rfl rfl (by kernel_rfl) (fun _ _ _ h => h) (Or.inl ⟨by rfl, ?_⟩) hHeld ?_ ?_
    rotate_left
    ·rintro w' ⟨s0, s1, s2⟩
     go_simp
     with_reducible rfl
    rotate_left
    ·simp only [Act.put, qA, qB, qC, i64_w, i32_w]
     rfl
    refine one_ (i := 7) (N := some 32) (bv 11 255) rfl rfl (by kernel_rfl) (by decide) (fun K hK => ?_)
    refine value_ (w1 := ?_) (v := ?_) (by rfl) rfl ?_ ?_
    rotate_left 2
    ·go_simp
     constructor
     ·rfl
     ·rfl
    have hs := HS.out.lit_ro kSps 91 (xs := [p]) (inner := [.slice Au p.length cu]) (Reps.one (PK.slice (HS.out.arg HU.out)) (Reps.none _ _)) (by simp)
    clear HS; have HS := aM hs; clear hs
    refine hK.out _ _ ⟨((HS.out.box 2 rfl).cell 0 rfl), ((HS.out.box 0 rfl).cell 0 rfl), (pw_cell_below HS.out.below HY.out)⟩ (fun hHeld => ?_)
    clear hK K
    refine norm_ (a' := ?_) ?_ ?_
    rotate_left
    ·show Act.put _ (some 32) _ = _
     simp only [Act.put, qA, qB, qC, i64_w, i32_w]
     rfl
    refine last_ (i := 8) (N := some 33) #[true, true, true, true, true, true, true, true, true, false, false] rfl rfl (by kernel_rfl) (by decide) (fun K hK => ?_)
    refine sgrow_step kSps 3 (by rfl) rfl (.tmp 26) (.tmp 32) 78 91 (.slice none 0 0) 24 rfl Tryz.underlying78 info91 rfl (by decide) (by omega) _ _ P [p] rfl rfl HS.out rfl (HS.out.ro 5 rfl) (by have := HPL.out; simpa using this) ?_
    intro v1 w1 hs
    obtain ⟨z1, hz1⟩ : ∃ q, q = P ++ [p] := ⟨_, rfl⟩
    rw [← hz1] at hs
    have HZz1 := aM hz1
    clear hz1
    obtain ⟨A1, c1, e1⟩ := hs.form 3 rfl
    subst e1
    clear HS; have HS := aM hs; clear hs
    have fz := (HS.out.box 2 rfl).open_ 0
    have yz := (HS.out.box 2 rfl).cell 0 rfl
    refine hK.out _ _ ?_
    clear hK K
    refine norm_ (a' := ?_) ?_ ?_
    rotate_left
    ·show Act.put _ (some 33) _ = _
     simp only [Act.put, qA, qB, qC, i64_w, i32_w]
     rfl
    refine pure_ (i := 9) (N := some 34) (v := ?_) (a' := ?_) (bv 11 1023) rfl rfl (by kernel_rfl) (fun _ _ _ h => h) (Or.inl ⟨by rfl, ?_⟩) ?_ ?_
    rotate_left
    ·intro w'
     go_simp
     with_reducible rfl
    rotate_left
    ·simp only [Act.put, qA, qB, qC, i64_w, i32_w]
     rfl
    refine last_ (i := 10) (N := none) #[true, true, true, true, true, true, true, true, true, true, true] rfl rfl (by kernel_rfl) (by decide) (fun K hK => ?_)
    refine skip_ (w1 := ?_) (by rfl) rfl ?_ ?_
    rotate_left
    ·go_simp
     rfl
    have hs := HS.out.set_box 2 rfl 0 (.slice A1 z1.length c1)
    clear HS; have HS := aM hs; clear hs
    refine hK.out _ _ ?_
    clear hK K
    refine done_ (by kernel_rfl) ?_
    go_wp2_with fail
    go_roundg k1
    case measure => omega
    case rel => exact ⟨k + 1, _, z1, by go_num, ⟨by have := HJ.out; omega, by rw [HZz1.out]; have := HJ.out; simp; omega⟩, ⟨by rw [HZz1.out]; exact HP2.out⟩, ⟨HS.out.take 5⟩⟩
  | zero =>
   have e1 : decide ((k : Int) < (parts.length : Int)) = false := dF (by have := HJ.out; omega)
   have e2 : decide (k < parts.length) = false := dF (by have := HJ.out; omega)
   have q0 : P = rp := by
    have := HP.out
    rw [List.drop_eq_nil_of_le (by have := HJ.out; omega)] at this
    simpa using this
   subst q0
   go_wp2_with fail
   clear HP HJ e1 e2 y0
   obtain ⟨A3, c3, e3⟩ := HS.out.form 3 rfl
   subst e3
   go_loopg [5] next.length (fun m v5 w' => ∃ (i : Nat) (vN : Value) (N : List (List Int)), v5 = .int .i64 i ∧ Aside0 (i + m = next.length ∧ N.length = i) ∧ Aside0 (N ++ (next.drop i).map (bareR parts) = rn) ∧ Aside0 (Sep X w w' [.box g1 80 [.slice Ap parts.length cp, .slice An next.length cn, .slice At tags.length ct], .box g2 80 [.slice none 0 0, .slice none 0 0, .slice none 0 0], .box g3 80 [(.slice A3 P.length c3), vN, .slice At tags.length ct], .row kSps 91 (.slice A3 P.length c3) P, .row kRow 26 vN N]))
   case atStart => exact ⟨0, _, [], rfl, ⟨by omega, rfl⟩, HN0, HS⟩
   case round =>
    clear HS HN0
    obtain ⟨i, vN, N, rfl, HJ, HN, HS⟩ := hrel
    obtain ⟨A4, c4, e4⟩ := HS.out.form 4 rfl
    subst e4
    have y1 := ((HS.out.box 0 rfl).cell 1 rfl)
    cases gk with
    | zero =>
     have e1 : decide ((i : Int) < (next.length : Int)) = false := dF (by have := HJ.out; omega)
     have e2 : decide (i < next.length) = false := dF (by have := HJ.out; omega)
     have q0 : N = rn := by
      have := HN.out
      rw [List.drop_eq_nil_of_le (by have := HJ.out; omega)] at this
      simpa using this
     subst q0
     have z0 := ((HS.out.box 2 rfl).cell 0 rfl)
     have z1 := ((HS.out.box 2 rfl).cell 1 rfl)
     have z2 := ((HS.out.box 2 rfl).cell 2 rfl)
     have x0 := ((HS.out.box 1 rfl).cell 0 rfl)
     have x1 := ((HS.out.box 1 rfl).cell 1 rfl)
     have x2 := ((HS.out.box 1 rfl).cell 2 rfl)
     have f0 := (HS.out.box 1 rfl).open_ 0
     have f1 := (HS.out.box 1 rfl).open_ 1
     have f2 := (HS.out.box 1 rfl).open_ 2
     go_wp2_with fail
     have HSF := aM (((HS.out.set_box 1 rfl 0 (.slice A3 P.length c3)).set_box 1 rfl 1 (.slice A4 N.length c4)).set_box 1 rfl 2 (.slice At tags.length ct))
     refine bodyPost_ret (results_cell_row rfl _ _ g2 80 #[.slice A3 P.length c3, .slice A4 N.length c4, .slice At tags.length ct] (0, 0) _ rfl (HSF.out.box 1 rfl) Tryz.underlying80 rfl (by kernel_rfl)) rfl ?_
     exact ⟨_, _, rfl, HSF.out.res_row 3 rfl, HSF.out.res_row 4 rfl, HSF.out.below⟩
    | succ k1 =>
     have hi : i < next.length := by have := HJ.out; omega
     have e1 : decide ((i : Int) < (next.length : Int)) = true := dT (by omega)
     have e2 : decide (i < next.length) = true := dT hi
     have hi0 : (0 : Int) ≤ (i : Int) := by omega
     have hi1 : (i : Int) < (next.length : Int) := by omega
     obtain ⟨an, cn', u, en, hu, yn⟩ := H1.out.row i hi
     cases en
     obtain ⟨Au, cu, rfl, _, _⟩ := hu.now
     have HU := aM hu
     have HY := aM yn
     have HRL := aM (HROW.out i hi)
     have HN1 := HN.out
     rw [drop_at next [] i hi, List.map_cons] at HN1
     generalize next.getD i [] = row at *
     obtain ⟨rr, hrr⟩ : ∃ q, q = bareR parts row := ⟨_, rfl⟩
     rw [← hrr] at HN1
     have HN2 := aM (show (N ++ [rr]) ++ (next.drop (i + 1)).map (bareR parts) = rn by rw [List.append_assoc]; exact HN1)
     have HR0 := aM (show [] ++ bareR (parts.drop 0) (row.drop 0) = rr from hrr.symm)
     have hs := HS.out.push_nil kInt 3
     clear hu yn HN1 HN hrr HS
     have HS := aM hs
     clear hs
     go_wp2_with fail
     clear y1
     go_loopg [6, 7] parts.length (fun m v6 v7 w' => ∃ (k : Nat) (R : List Int), v7 = .int .i64 k ∧ Aside0 (k + m = parts.length ∧ R.length ≤ k) ∧ Aside0 (R ++ bareR (parts.drop k) (row.drop k) = rr) ∧ Aside0 (Sep X w w' [.box g1 80 [.slice Ap parts.length cp, .slice (some an) next.length cn, .slice At tags.length ct], .box g2 80 [.slice none 0 0, .slice none 0 0, .slice none 0 0], .box g3 80 [(.slice A3 P.length c3), (.slice A4 N.length c4), .slice At tags.length ct], .row kSps 91 (.slice A3 P.length c3) P, .row kRow 26 (.slice A4 N.length c4) N, .row kInt 3 v6 R]))
     case atStart => exact ⟨0, [], rfl, ⟨by omega, by simp⟩, HR0, HS⟩
     case round =>
      clear HS HR0
      obtain ⟨k, R, rfl, HK, HR, HS⟩ := hrel
      have y0 := ((HS.out.box 0 rfl).cell 0 rfl)
      have y1 := ((HS.out.box 0 rfl).cell 1 rfl)
      cases gk with
      | succ k2 =>
       have hk : k < parts.length := by have := HK.out; omega
       have e1 : decide ((k : Int) < (parts.length : Int)) = true := dT (by omega)
       have e2 : decide (k < parts.length) = true := dT hk
       have hk0 : (0 : Int) ≤ (k : Int) := by omega
       have hk1 : (k : Int) < (parts.length : Int) := by omega
       have hkr : (k : Int) < (row.length : Int) := by have := HRL.out; omega
       obtain ⟨ap, cp', u, ep, hu, yp⟩ := H0.out.row k hk
       cases ep
       obtain ⟨Ap2, cp2, rfl, _, _⟩ := hu.now
       obtain ⟨ar, cr, er, yr⟩ := int_cell HU.out k (by have := HRL.out; omega)
       cases er
       have yp1 := pw_cell_below HS.out.below yp
       have yr1 := pw_cell_below HS.out.below yr
       have yn1 := pw_cell_below HS.out.below HY.out
       have HR1 := HR.out
       rw [bareR_cut parts row k hk HRL.out] at HR1
       generalize parts.getD k [] = p at *
       generalize row.getD k 0 = x at *
       clear hu yp yr
       rcases Nat.eq_zero_or_pos p.length with c | c
       case inl =>
        have d1 : decide ((p.length : Int) > 0) = false := dF (by omega)
        have d2 : decide (0 < p.length) = false := dF (by omega)
        have d4 : decide (0 < (p.length : Int)) = false := dF (by omega)
        have d3 : p.length ≤ 0 := by omega
        have HR2 := aM (show R ++ bareR (parts.drop (k + 1)) (row.drop (k + 1)) = rr by rwa [if_neg (by omega)] at HR1)
        clear HR1
        go_wp2_with fail
        go_roundg k2
        case measure => omega
        case rel => exact ⟨k + 1, R, by go_num, ⟨by have := HK.out; omega, by have := HK.out; omega⟩, HR2, HS⟩
       case inr =>
        have d1 : decide ((p.length : Int) > 0) = true := dT (by omega)
        have d4 : decide (0 < (p.length : Int)) = true := dT (by omega)
        have d2 : decide (0 < p.length) = true := dT (by omega)
        have HR2 := aM (show (R ++ [x]) ++ bareR (parts.drop (k + 1)) (row.drop (k + 1)) = rr by rw [if_pos c] at HR1; rw [List.append_assoc]; exact HR1)
        have HPL := aM (show (R.length + 1) * 8 ≤ 140737488355328 by have := HK.out; omega)
        clear HR1
        go_wp2_with (first
         | ((with_reducible refine gate_dst (N := 65) rfl ?_); refine slit kInt 3 ?hg (N := 65) ?hd (xs := [x]) (inner := [.int .i64 x]) ?hr HS.out ?hp (by simp) ?_; (case hd => rfl); (case hg => rfl); (case hr => first | (go_simp; done) | (go_simp; rfl)); (case hp => exact Reps.one (PK.scalar _) (Reps.none _ _)); clear HS; intro v8 w8 hs; have HS := aM hs; clear hs)
         | ((with_reducible refine gate_builtin (b := .append) (xs := #[.tmp 56, .tmp 65]) rfl ?_); at_builtin; refine sgrow kInt 5 rfl (.tmp 56) (.tmp 65) 26 3 (.int .i64 0) 8 rfl Tryz.underlying26 info3' rfl (by decide) (by omega) _ _ R [x] rfl rfl HS.out rfl (HS.out.ro 6 rfl) (by have := HPL.out; simpa using this) ?_; clear HS; intro v9 w9 hs; have HS := aM hs; clear hs))
        go_roundg k2
        case measure => omega
        case rel => exact ⟨k + 1, R ++ [x], by go_num, ⟨by have := HK.out; omega, by have := HK.out; simp; omega⟩, HR2, ⟨HS.out.take 6⟩⟩
      | zero =>
       have e1 : decide ((k : Int) < (parts.length : Int)) = false := dF (by have := HK.out; omega)
       have e2 : decide (k < parts.length) = false := dF (by have := HK.out; omega)
       have q0 : R = rr := by
        have := HR.out
        rw [List.drop_eq_nil_of_le (by have := HK.out; omega)] at this
        simpa [bareR] using this
       clear HR
       subst q0
       obtain ⟨A6, c6, e6⟩ := HS.out.form 5 rfl
       subst e6
       have hs := HS.out.sealRo 5 rfl
       clear HS
       have HS := aM hs
       have y2 := ((HS.out.box 2 rfl).cell 1 rfl)
       clear hs
       have HPL := aM (show (N.length + 1) * 24 ≤ 140737488355328 by have := HJ.out; omega)
       go_wp2_with (first
        | ((with_reducible refine gate_dst (N := 70) rfl ?_); refine slit kRow 26 ?hg (N := 70) ?hd (xs := [R]) (inner := [.slice A6 R.length c6]) ?hr HS.out ?hp (by simp) ?_; (case hd => rfl); (case hg => rfl); (case hr => first | (go_simp; done) | (go_simp; rfl)); (case hp => exact Reps.one (PK.slice (HS.out.ro 5 rfl)) (Reps.none _ _)); clear HS; intro v8 w8 hs; have HS := aM hs; clear hs)
        | ((with_reducible refine gate_builtin (b := .append) (xs := #[.tmp 68, .tmp 70]) rfl ?_); at_builtin; refine sgrow kRow 4 rfl (.tmp 68) (.tmp 70) 25 26 (.slice none 0 0) 24 rfl Tryz.underlying25 info26 rfl (by decide) (by omega) _ _ N [R] rfl rfl HS.out rfl (HS.out.ro 6 rfl) (by have := HPL.out; simpa using this) ?_; clear HS; intro v1 w1 hs; obtain ⟨n1, hn1⟩ : ∃ q, q = N ++ [R] := ⟨_, rfl⟩; rw [← hn1] at hs; have HZn1 := aM hn1; clear hn1; obtain ⟨A1, c1, e1⟩ := hs.form 4 rfl; subst e1; have fz := (hs.box 2 rfl).open_ 1; have yz := (hs.box 2 rfl).cell 1 rfl; have HS := aM hs; clear hs))
       have hs := HS.out.set_box 2 rfl 1 (.slice A1 n1.length c1)
       clear HS
       have HS := aM hs
       go_roundg k1
       case measure => omega
       case rel => exact ⟨i + 1, _, n1, by go_num, ⟨by have := HJ.out; omega, by rw [HZn1.out]; have := HJ.out; simp; omega⟩, ⟨by rw [HZn1.out]; exact HN2.out⟩, ⟨HS.out.take 5⟩⟩
end Go.Proofs.YtplhfgobeicegaaGreatDoor.P
